/- Of the texts that the row stands on, what it needs (part 13), put together by a program of this session. -/
import Derived.Test.YtlgmabibcpkdmaaZaT10
import Derived.Test.YtlgmabibcpkdmaaZaT12
namespace Go.Proofs.Ytlgmabibcpkdmaa.PAll
open Go.RowKit Go.Proofs.YtlgmabibcpkdmaaW.PrintWords Go.Proofs.YtlgmabibcpkdmaaW.PrintLast Go.Proofs.YtlgmabibcpkdmaaW.PrintMore
attribute [local go_sem] max2_int min2_int max_two min_two max_three min_three max_four min_four
set_option linter.unusedVariables false
set_option linter.unusedSimpArgs false
mutual
def sheet_Cells.l0 : Nat → ByteArray → List (S52) → Int → ByteArray → Bool → Option ((List (S52)) × Bool)
  | 0, _, _, _, _, _ => none
  | k + 1, x0, x5, x6, x113000, x113001 => if x6 > 0 then ((sheet_reader_num.f k x113000 x113001 4).bind fun bt119 => ((sheet_reader_num.f k bt119.2.1 bt119.2.2 2).bind fun bt123 => (if bt123.1 ≤ 24 then ((sheet_reader_take.f bt123.2.1 bt123.2.2 bt123.1).bind fun bt126 => (sheet_Cells.j1 k x0 x5 x6 bt126.2.1 bt126.2.2 bt119.1 bt123.1 0 bt126.1)) else ((sheet_reader_num.f k bt123.2.1 bt123.2.2 2).bind fun bt129 => (sheet_Cells.j1 k x0 x5 x6 bt129.2.1 bt129.2.2 bt119.1 bt123.1 bt129.1 (⟨#[]⟩ : ByteArray)))))) else ((sheet_Leaf.f x5).bind fun bt135 => (if x113001 = true then (sheet_Cells.j2 k x5 true) else (if bt135.2 = true then (sheet_Cells.j2 k x5 (bt135.1.toList != x0.toList)) else (sheet_Cells.j2 k x5 true))))
def sheet_Cells.j1 : Nat → ByteArray → List (S52) → Int → ByteArray → Bool → Int → Int → Int → ByteArray → Option ((List (S52)) × Bool)
  | 0, _, _, _, _, _, _, _, _, _ => none
  | k + 1, x0, x5, x6, x113000, x113001, x123000, x123001, x123002, x123003 => if x5.length < 3518437208883 then (sheet_Cells.l0 k x0 (x5 ++ [(⟨x123000, x123001, x123002, x123003⟩ : S52)]) (wrap64 (x6 - 1)) x113000 x113001) else (none)
def sheet_Cells.j2 : Nat → List (S52) → Bool → Option ((List (S52)) × Bool)
  | 0, _, _ => none
  | k + 1, x5, x59 => if x59 = true then (some (([] : List (S52)), false)) else (some (x5, true))
end
def sheet_Cells.f (k : Nat) (a0 : ByteArray) : Option ((List (S52)) × Bool) := (sheet_reader_take.f a0 false 1).bind fun bt113 => ((sheet_reader_num.f k bt113.2.1 bt113.2.2 1).bind fun bt116 => (sheet_Cells.l0 k a0 ([] : List (S52)) bt116.1 bt116.2.1 bt116.2.2))
theorem sheet_Cells.mono_l : ∀ k, (∀ y0 y1 y2 y3 y4, LeO (sheet_Cells.l0 k y0 y1 y2 y3 y4) (sheet_Cells.l0 (k + 1) y0 y1 y2 y3 y4)) ∧ (∀ y0 y1 y2 y3 y4 y5 y6 y7 y8, LeO (sheet_Cells.j1 k y0 y1 y2 y3 y4 y5 y6 y7 y8) (sheet_Cells.j1 (k + 1) y0 y1 y2 y3 y4 y5 y6 y7 y8)) ∧ (∀ y0 y1, LeO (sheet_Cells.j2 k y0 y1) (sheet_Cells.j2 (k + 1) y0 y1))
  | 0 => ⟨fun _ _ _ _ _ r h => by simp [sheet_Cells.l0] at h, fun _ _ _ _ _ _ _ _ _ r h => by simp [sheet_Cells.j1] at h, fun _ _ r h => by simp [sheet_Cells.j2] at h⟩
  | k + 1 => by
    obtain ⟨ih0, ih1, ih2⟩ := sheet_Cells.mono_l k
    refine ⟨?_, ?_, ?_⟩
    · intro y0 y1 y2 y3 y4
      unfold sheet_Cells.l0
      repeat' first
      | (with_reducible exact ih0 _ _ _ _ _)
      | (with_reducible exact ih1 _ _ _ _ _ _ _ _ _)
      | (with_reducible exact ih2 _ _)
      | (with_reducible exact sheet_reader_num.mono _ _ _ _)
      | (with_reducible exact LeO.refl _)
      | (with_reducible exact LeO.none _)
      | (with_reducible refine LeO.ite ?_ ?_)
      | (with_reducible refine LeO.bind ?_ (fun _ => ?_))
      | exact ih0 _ _ _ _ _
      | exact ih1 _ _ _ _ _ _ _ _ _
      | exact ih2 _ _
      | exact sheet_reader_num.mono _ _ _ _
      | exact LeO.none _
      | refine LeO.ite ?_ ?_
      | refine LeO.bind ?_ (fun _ => ?_)
    · intro y0 y1 y2 y3 y4 y5 y6 y7 y8
      unfold sheet_Cells.j1
      repeat' first
      | (with_reducible exact ih0 _ _ _ _ _)
      | (with_reducible exact ih1 _ _ _ _ _ _ _ _ _)
      | (with_reducible exact ih2 _ _)
      | (with_reducible exact sheet_reader_num.mono _ _ _ _)
      | (with_reducible exact LeO.refl _)
      | (with_reducible exact LeO.none _)
      | (with_reducible refine LeO.ite ?_ ?_)
      | (with_reducible refine LeO.bind ?_ (fun _ => ?_))
      | exact ih0 _ _ _ _ _
      | exact ih1 _ _ _ _ _ _ _ _ _
      | exact ih2 _ _
      | exact sheet_reader_num.mono _ _ _ _
      | exact LeO.none _
      | refine LeO.ite ?_ ?_
      | refine LeO.bind ?_ (fun _ => ?_)
    · intro y0 y1
      unfold sheet_Cells.j2
      repeat' first
      | (with_reducible exact ih0 _ _ _ _ _)
      | (with_reducible exact ih1 _ _ _ _ _ _ _ _ _)
      | (with_reducible exact ih2 _ _)
      | (with_reducible exact sheet_reader_num.mono _ _ _ _)
      | (with_reducible exact LeO.refl _)
      | (with_reducible exact LeO.none _)
      | (with_reducible refine LeO.ite ?_ ?_)
      | (with_reducible refine LeO.bind ?_ (fun _ => ?_))
      | exact ih0 _ _ _ _ _
      | exact ih1 _ _ _ _ _ _ _ _ _
      | exact ih2 _ _
      | exact sheet_reader_num.mono _ _ _ _
      | exact LeO.none _
      | refine LeO.ite ?_ ?_
      | refine LeO.bind ?_ (fun _ => ?_)
theorem sheet_Cells.mono : ∀ a0 k, LeO (sheet_Cells.f k a0) (sheet_Cells.f (k + 1) a0) := by
  intro a0 k
  obtain ⟨ih0, ih1, ih2⟩ := sheet_Cells.mono_l k
  unfold sheet_Cells.f
  repeat' first
      | (with_reducible exact ih0 _ _ _ _ _)
      | (with_reducible exact ih1 _ _ _ _ _ _ _ _ _)
      | (with_reducible exact ih2 _ _)
      | (with_reducible exact sheet_reader_num.mono _ _ _ _)
      | (with_reducible exact LeO.refl _)
      | (with_reducible exact LeO.none _)
      | (with_reducible refine LeO.ite ?_ ?_)
      | (with_reducible refine LeO.bind ?_ (fun _ => ?_))
      | exact ih0 _ _ _ _ _
      | exact ih1 _ _ _ _ _ _ _ _ _
      | exact ih2 _ _
      | exact sheet_reader_num.mono _ _ _ _
      | exact LeO.none _
      | refine LeO.ite ?_ ?_
      | refine LeO.bind ?_ (fun _ => ?_)
set_option maxHeartbeats 8000000 in
set_option maxRecDepth 100000 in
theorem sheet_Cells.calls (k : Nat) (a0 : ByteArray) (r1 : List (S52)) (r2 : Bool) (w : World) (h : sheet_Cells.f k a0 = some (r1,r2)) :
    Calls Try.prog 12 #[.string a0] w fun e w' => ∃ v0_ : Value,e = .returned (.tuple #[v0_,.bool r2]) ∧ Kd.R k52 52 w' w.heap.size (fun _ => True) v0_ r1 ∧ Below w.heap.size w w':=by
 have hu76:=Try.underlying76
 have hu52:=Try.underlying52
 have HB:=Aside0.mk (Below.refl w.heap.size w)
 have H : ((sheet_reader_take.f a0 false 1).bind fun bt113 => ((sheet_reader_num.f k bt113.2.1 bt113.2.2 1).bind fun bt116 => (sheet_Cells.l0 k a0 ([] : List (S52)) bt116.1 bt116.2.1 bt116.2.2))) = some (r1,r2):=h
 clear h
 replace H:=Option.bind_eq_some_iff.mp H
 obtain ⟨⟨t113,t114,t115⟩,A20,H⟩:=H
 replace H : ((sheet_reader_num.f k t114 t115 1).bind fun bt116 => (sheet_Cells.l0 k a0 ([] : List (S52)) bt116.1 bt116.2.1 bt116.2.2)) = some (r1,r2):=H
 have A2:=Aside0.mk A20
 clear A20
 replace H:=Option.bind_eq_some_iff.mp H
 obtain ⟨⟨t116,t117,t118⟩,A30,H⟩:=H
 replace H : (sheet_Cells.l0 k a0 ([] : List (S52)) t116 t117 t118) = some (r1,r2):=H
 have A3:=Aside0.mk A30
 clear A30
 have H':=Aside0.mk H
 clear H
 go_enter Try.func12,Try.ntmps12
 go_wp2_with (first | ((with_reducible refine gate_dst (N:=12) rfl ?_); refine box_event ?hg (N:=12) ?hd (cs:=#[.string a0,.bool false]) (t:=76) ?hr ?_; (case hd => rfl); (case hg => rfl); (case hr => first | (go_simp; done) | (go_simp; rfl)); intro gb112 hg w4 hbox hb; have n0_:=Aside0.mk (below_step (by repeat (first | (with_reducible first | exact HB.out | apply below_alloc | apply pw_below_drewN | apply below_drew1) | exact HB.out)) hb); have n1_:=Aside0.mk ((show IsS76 w w4 gb112 a0 false from ⟨hbox,(by rw [hg]; exact (below_size (by repeat (first | (with_reducible first | exact HB.out | apply below_alloc | apply pw_below_drewN | apply below_drew1) | exact HB.out))) : w.heap.size ≤ gb112)⟩)); have n2_:=Aside0.mk ((by rw [hg]; exact (below_size (by repeat (first | (with_reducible first | exact HB.out | apply below_alloc | apply pw_below_drewN | apply below_drew1) | exact HB.out))) : w.heap.size ≤ gb112)); have n3_:=Aside0.mk ((by rw [hg]; exact (below_size (by repeat (first | (with_reducible first | exact HB.out | apply below_alloc | apply pw_below_drewN | apply below_drew1) | exact HB.out))) : w.heap.size ≤ gb112)); clear HB; have HB:=n0_; have HI112:=n1_; have GW112:=n2_; have GE112:=n3_; clear n0_ n1_ n2_ n3_; clear hb hbox hg) | ((with_reducible refine gate_callee (f:=36) rfl ?_); refine goesL_ (some 14) rfl rfl Try.func36 (by kernel_rfl) rfl #[.pointer (some ⟨gb112,0,none⟩),.int .i64 1] rfl (by (try simp only [List.map_toArray,List.map_cons,List.map_nil]); first | done | rfl | (simp only [List.length_drop,List.length_take]; rfl) | (simp only [ByteArray.size_append,Int.natCast_add]; rfl) | (simp [ByteArray.size_append,Int.add_assoc]; done)) ?_; (with_reducible refine (sheet_reader_take.calls gb112 a0 false 1 t113 t114 t115 w _ ?side1 ?side2 A2.out).mono ?_); (case side1 => repeat (first | (with_reducible first | exact HI112.out | apply IsS76.alloc | apply IsS76.drewN | apply IsS76.drew | apply IsS76.set_0 | apply IsS76.set_1) | exact HI112.out)); (case side2 => repeat (first | (with_reducible first | exact HB.out | apply below_alloc | apply pw_below_drewN | apply below_drew1 | refine below_set ?_ (IsS76.ge HI112.out)) | exact HB.out)); rintro e w5 ⟨rfl,hi,hb,hk⟩; refine ⟨_,rfl,?_⟩; have n0_:=Aside0.mk (hb); have n1_:=Aside0.mk (hi); clear HB; clear HI112; have HB:=n0_; have HI112:=n1_; clear n0_ n1_; (try clear hb); (try clear hb2); (try clear hk); (try clear hi)) | ((with_reducible refine gate_callee (f:=37) rfl ?_); refine goesL_ (some 16) rfl rfl Try.func37 (by kernel_rfl) rfl #[.pointer (some ⟨gb112,0,none⟩),.int .i64 1] rfl (by (try simp only [List.map_toArray,List.map_cons,List.map_nil]); first | done | rfl | (simp only [List.length_drop,List.length_take]; rfl) | (simp only [ByteArray.size_append,Int.natCast_add]; rfl) | (simp [ByteArray.size_append,Int.add_assoc]; done)) ?_; (with_reducible refine (sheet_reader_num.calls k gb112 t114 t115 1 t116 t117 t118 w _ ?side1 ?side2 A3.out).mono ?_); (case side1 => repeat (first | (with_reducible first | exact HI112.out | apply IsS76.alloc | apply IsS76.drewN | apply IsS76.drew | apply IsS76.set_0 | apply IsS76.set_1) | exact HI112.out)); (case side2 => repeat (first | (with_reducible first | exact HB.out | apply below_alloc | apply pw_below_drewN | apply below_drew1 | refine below_set ?_ (IsS76.ge HI112.out)) | exact HB.out)); rintro e w6 ⟨rfl,hi,hb,hk⟩; refine ⟨_,rfl,?_⟩; have n0_:=Aside0.mk (hb); have n1_:=Aside0.mk (hi); clear HB; clear HI112; have HB:=n0_; have HI112:=n1_; clear n0_ n1_; (try clear hb); (try clear hb2); (try clear hk); (try clear hi)))
 go_loopg [5,6] k (fun kq v5 v6 w' => ∃ (x5_1 : List (S52)) (x6_1 : Int) (x113000_1 : ByteArray) (x113001_1 : Bool),v6 = .int .i64 x6_1 ∧ Aside0 (sheet_Cells.l0 kq a0 x5_1 x6_1 x113000_1 x113001_1 = some (r1,r2)) ∧ Aside0 (kq ≤ k) ∧ Aside0 (Kd.R k52 52 w' w.heap.size (fun _ => True) v5 x5_1) ∧ Aside0 (IsS76 w w' gb112 x113000_1 x113001_1) ∧ Aside0 (Below w.heap.size w w'))
 case atStart => exact ⟨(([] : List (S52))),(t116),(t117),(t118),(by first | rfl | (simp; done) | (simp [*]; done)),H',⟨Nat.le_refl _⟩,⟨by first | exact Kd.R_nil _ _ _ _ _ | exact Kd.N_nil _ _ _ _ _ | exact Kd.V_nil _ _ _ _ _ | exact Kd.Q_nil _ _ _ _ _ | exact Kd.S_nil _ _ _ _ _⟩,⟨by repeat (first | (with_reducible first | exact HI112.out | apply IsS76.alloc | apply IsS76.drewN | apply IsS76.drew | apply IsS76.set_0 | apply IsS76.set_1) | exact HI112.out)⟩,⟨by repeat (first | (with_reducible first | exact HB.out | apply below_alloc | apply pw_below_drewN | apply below_drew1 | refine below_set ?_ (IsS76.ge HI112.out)) | exact HB.out)⟩⟩
 clear H'
 try clear c1
 try clear p2
 try clear c3
 obtain ⟨x5_1,x6_1,x113000_1,x113001_1,rfl,HA,HK1,HO_5,HI112,HB⟩:=hrel
 cases gk with
 | zero => exact absurd HA.out (by simp [sheet_Cells.l0])
 | succ k1 =>
  have H:=HA.out
  clear HA
  simp only [sheet_Cells.l0] at H
  by_cases c7 : x6_1 > 0
  ·rw [if_pos c7] at H
   have c7b0 : decide (0 < x6_1) = true:=decide_eq_true c7
   clear c7
   replace H:=Option.bind_eq_some_iff.mp H
   obtain ⟨⟨t119,t120,t121⟩,A80,H⟩:=H
   replace H : ((sheet_reader_num.f k1 t120 t121 2).bind fun bt123 => (if bt123.1 ≤ 24 then ((sheet_reader_take.f bt123.2.1 bt123.2.2 bt123.1).bind fun bt126 => (sheet_Cells.j1 k1 a0 x5_1 x6_1 bt126.2.1 bt126.2.2 t119 bt123.1 0 bt126.1)) else ((sheet_reader_num.f k1 bt123.2.1 bt123.2.2 2).bind fun bt129 => (sheet_Cells.j1 k1 a0 x5_1 x6_1 bt129.2.1 bt129.2.2 t119 bt123.1 bt129.1 (⟨#[]⟩ : ByteArray))))) = some (r1,r2):=H
   have A8:=Aside0.mk A80
   clear A80
   replace H:=Option.bind_eq_some_iff.mp H
   obtain ⟨⟨t123,t124,t125⟩,A90,H⟩:=H
   replace H : (if t123 ≤ 24 then ((sheet_reader_take.f t124 t125 t123).bind fun bt126 => (sheet_Cells.j1 k1 a0 x5_1 x6_1 bt126.2.1 bt126.2.2 t119 t123 0 bt126.1)) else ((sheet_reader_num.f k1 t124 t125 2).bind fun bt129 => (sheet_Cells.j1 k1 a0 x5_1 x6_1 bt129.2.1 bt129.2.2 t119 t123 bt129.1 (⟨#[]⟩ : ByteArray)))) = some (r1,r2):=H
   have A9:=Aside0.mk A90
   clear A90
   have HC10:=Aside0.mk H
   clear H
   go_upto_if 29 with (first | ((with_reducible refine gate_callee (f:=37) rfl ?_); refine goesL_ (some 22) rfl rfl Try.func37 (by kernel_rfl) rfl #[.pointer (some ⟨gb112,0,none⟩),.int .i64 4] rfl (by (try simp only [List.map_toArray,List.map_cons,List.map_nil]); first | done | rfl | (simp only [List.length_drop,List.length_take]; rfl) | (simp only [ByteArray.size_append,Int.natCast_add]; rfl) | (simp [ByteArray.size_append,Int.add_assoc]; done)) ?_; (with_reducible refine (sheet_reader_num.calls k1 gb112 x113000_1 x113001_1 4 t119 t120 t121 w _ ?side1 ?side2 A8.out).mono ?_); (case side1 => repeat (first | (with_reducible first | exact HI112.out | apply IsS76.alloc | apply IsS76.drewN | apply IsS76.drew | apply IsS76.set_0 | apply IsS76.set_1) | exact HI112.out)); (case side2 => repeat (first | (with_reducible first | exact HB.out | apply below_alloc | apply pw_below_drewN | apply below_drew1 | refine below_set ?_ (IsS76.ge HI112.out)) | exact HB.out)); rintro e w11 ⟨rfl,hi,hb,hk⟩; refine ⟨_,rfl,?_⟩; have n0_:=Aside0.mk (Kd.R_mono (Kd.R_keep (IsS76.apart (show IsS76 w _ gb112 x113000_1 x113001_1 from by repeat (first | (with_reducible first | exact HI112.out | apply IsS76.alloc | apply IsS76.drewN | apply IsS76.drew | apply IsS76.set_0 | apply IsS76.set_1) | exact HI112.out)) (by (with_reducible repeat (first | apply Kd.R_alloc | apply Kd.R_drewN | apply Kd.R_drew)); exact HO_5.out) (by decide)) hk (fun _ h => h.2)) (fun _ h => h.1)); have n1_:=Aside0.mk (hb); have n2_:=Aside0.mk (hi); clear HO_5; clear HB; clear HI112; have HO_5:=n0_; have HB:=n1_; have HI112:=n2_; clear n0_ n1_ n2_; (try clear hb); (try clear hb2); (try clear hk); (try clear hi)) | ((with_reducible refine gate_dst (N:=7) rfl ?_); refine box_event ?hg (N:=7) ?hd (cs:=#[.int .i64 0,.int .i64 0,.int .i64 0,.string (⟨#[]⟩ : ByteArray)]) (t:=52) ?hr ?_; (case hd => rfl); (case hg => rfl); (case hr => first | (go_simp; done) | (go_simp; rfl)); intro gb122 hg w12 hbox hb; have n0_:=Aside0.mk (Kd.R_below (Kd.R_elderB (by (with_reducible repeat (first | apply Kd.R_alloc | apply Kd.R_drewN | apply Kd.R_drew)); exact HO_5.out) gb122 (Nat.le_of_eq hg.symm)) hb); have n1_:=Aside0.mk (IsS76.below (by repeat (first | (with_reducible first | exact HI112.out | apply IsS76.alloc | apply IsS76.drewN | apply IsS76.drew | apply IsS76.set_0 | apply IsS76.set_1) | exact HI112.out)) hb); have n2_:=Aside0.mk (below_step (by repeat (first | (with_reducible first | exact HB.out | apply below_alloc | apply pw_below_drewN | apply below_drew1 | refine below_set ?_ (IsS76.ge HI112.out)) | exact HB.out)) hb); have n3_:=Aside0.mk (hbox); have n4_:=Aside0.mk ((by rw [hg]; exact (below_size (by repeat (first | (with_reducible first | exact HB.out | apply below_alloc | apply pw_below_drewN | apply below_drew1 | refine below_set ?_ (IsS76.ge HI112.out)) | exact HB.out))) : w.heap.size ≤ gb122)); have n5_:=Aside0.mk ((by rw [hg]; exact (below_size (by repeat (first | (with_reducible first | exact HB.out | apply below_alloc | apply pw_below_drewN | apply below_drew1 | refine below_set ?_ (IsS76.ge HI112.out)) | exact HB.out))) : w.heap.size ≤ gb122)); have n6_:=Aside0.mk ((by rw [hg]; exact Nat.ne_of_lt (IsS76.lt (show IsS76 w _ gb112 t120 t121 from by repeat (first | (with_reducible first | exact HI112.out | apply IsS76.alloc | apply IsS76.drewN | apply IsS76.drew | apply IsS76.set_0 | apply IsS76.set_1) | exact HI112.out))) : gb112 ≠ gb122)); have n7_:=Aside0.mk ((by rw [hg]; exact Nat.ne_of_gt (IsS76.lt (show IsS76 w _ gb112 t120 t121 from by repeat (first | (with_reducible first | exact HI112.out | apply IsS76.alloc | apply IsS76.drewN | apply IsS76.drew | apply IsS76.set_0 | apply IsS76.set_1) | exact HI112.out))) : gb122 ≠ gb112)); clear HO_5; clear HI112; clear HB; have HO_5:=n0_; have HI112:=n1_; have HB:=n2_; have BK122:=n3_; have GW122:=n4_; have GE122:=n5_; have NB112_122:=n6_; have NB122_112:=n7_; clear n0_ n1_ n2_ n3_ n4_ n5_ n6_ n7_; clear hb hbox hg; have hnb13:=NB122_112.out; have hnc13:=NB112_122.out; have hcz14_0 : w12.cell? ⟨gb122,0,none⟩ = some (.int .i64 0):=(blk_cell BK122.out 0).trans rfl; have hcz14_1 : w12.cell? ⟨gb122,1,none⟩ = some (.int .i64 0):=(blk_cell BK122.out 1).trans rfl; have hcz14_2 : w12.cell? ⟨gb122,2,none⟩ = some (.int .i64 0):=(blk_cell BK122.out 2).trans rfl; have hcz14_3 : w12.cell? ⟨gb122,3,none⟩ = some (.string (⟨#[]⟩ : ByteArray)):=(blk_cell BK122.out 3).trans rfl; have hfz14_0:=blk_frozen BK122.out 0; have hfz14_1:=blk_frozen BK122.out 1; have hfz14_2:=blk_frozen BK122.out 2; have hfz14_3:=blk_frozen BK122.out 3) | ((with_reducible refine gate_callee (f:=37) rfl ?_); refine goesL_ (some 25) rfl rfl Try.func37 (by kernel_rfl) rfl #[.pointer (some ⟨gb112,0,none⟩),.int .i64 2] rfl (by (try simp only [List.map_toArray,List.map_cons,List.map_nil]); first | done | rfl | (simp only [List.length_drop,List.length_take]; rfl) | (simp only [ByteArray.size_append,Int.natCast_add]; rfl) | (simp [ByteArray.size_append,Int.add_assoc]; done)) ?_; (with_reducible refine (sheet_reader_num.calls k1 gb112 t120 t121 2 t123 t124 t125 w _ ?side1 ?side2 A9.out).mono ?_); (case side1 => repeat (first | (with_reducible first | exact HI112.out | apply IsS76.alloc | apply IsS76.drewN | apply IsS76.drew | apply IsS76.set_0 | apply IsS76.set_1 | refine IsS76.far ?_ NB112_122.out _) | exact HI112.out)); (case side2 => repeat (first | (with_reducible first | exact HB.out | apply below_alloc | apply pw_below_drewN | apply below_drew1 | refine below_set ?_ (IsS76.ge HI112.out) | refine below_set ?_ GE122.out) | exact HB.out)); rintro e w15 ⟨rfl,hi,hb,hk⟩; refine ⟨_,rfl,?_⟩; have n0_:=Aside0.mk (Kd.R_mono (Kd.R_keep (IsS76.apart (show IsS76 w _ gb112 t120 t121 from by repeat (first | (with_reducible first | exact HI112.out | apply IsS76.alloc | apply IsS76.drewN | apply IsS76.drew | apply IsS76.set_0 | apply IsS76.set_1 | refine IsS76.far ?_ NB112_122.out _) | exact HI112.out)) (by (with_reducible repeat (first | apply Kd.R_alloc | apply Kd.R_drewN | apply Kd.R_drew)); exact (Kd.R_mono (Kd.R_far (p:=⟨gb122,3,none⟩) (Kd.R_far (p:=⟨gb122,2,none⟩) (Kd.R_far (p:=⟨gb122,1,none⟩) (Kd.R_far (p:=⟨gb122,0,none⟩) (Kd.R_mono HO_5.out (fun k_ hk => (⟨hk,hk.2⟩ : _ ∧ k_ ≠ gb122))) (fun _ hk => hk.2) (.int .i64 t119)) (fun _ hk => hk.2) (.int .i64 0)) (fun _ hk => hk.2) (.int .i64 0)) (fun _ hk => hk.2) (.string (⟨#[]⟩ : ByteArray))) (fun _ h_ => h_.1))) (by decide)) hk (fun _ h => h.2)) (fun _ h => h.1)); have n1_:=Aside0.mk (KeepBut.blk hk (g':=gb122) (o:=.cells #[.int .i64 t119,.int .i64 0,.int .i64 0,.string (⟨#[]⟩ : ByteArray)] 52 (0,0)) (by (with_reducible repeat (first | refine blk_drewN ?_ _ | refine blk_drew ?_ | refine blk_alloc ?_ _)); refine blk_put (cs:=#[.int .i64 t119,.int .i64 0,.int .i64 0,.string (⟨#[]⟩ : ByteArray)]) ?_ 3 _ rfl; (with_reducible repeat (first | refine blk_drewN ?_ _ | refine blk_drew ?_ | refine blk_alloc ?_ _)); refine blk_put (cs:=#[.int .i64 t119,.int .i64 0,.int .i64 0,.string (⟨#[]⟩ : ByteArray)]) ?_ 2 _ rfl; (with_reducible repeat (first | refine blk_drewN ?_ _ | refine blk_drew ?_ | refine blk_alloc ?_ _)); refine blk_put (cs:=#[.int .i64 t119,.int .i64 0,.int .i64 0,.string (⟨#[]⟩ : ByteArray)]) ?_ 1 _ rfl; (with_reducible repeat (first | refine blk_drewN ?_ _ | refine blk_drew ?_ | refine blk_alloc ?_ _)); refine blk_put (cs:=#[.int .i64 0,.int .i64 0,.int .i64 0,.string (⟨#[]⟩ : ByteArray)]) ?_ 0 _ rfl; (with_reducible repeat (first | refine blk_drewN ?_ _ | refine blk_drew ?_ | refine blk_alloc ?_ _)); exact BK122.out) NB122_112.out (by simp)); have n2_:=Aside0.mk (hb); have n3_:=Aside0.mk (hi); clear HO_5; clear BK122; clear HB; clear HI112; have HO_5:=n0_; have BK122:=n1_; have HB:=n2_; have HI112:=n3_; clear n0_ n1_ n2_ n3_; (try clear hb); (try clear hb2); (try clear hk); (try clear hi); have hcz16_0 : w15.cell? ⟨gb122,0,none⟩ = some (.int .i64 t119):=(blk_cell BK122.out 0).trans rfl; have hcz16_1 : w15.cell? ⟨gb122,1,none⟩ = some (.int .i64 0):=(blk_cell BK122.out 1).trans rfl; have hcz16_2 : w15.cell? ⟨gb122,2,none⟩ = some (.int .i64 0):=(blk_cell BK122.out 2).trans rfl; have hcz16_3 : w15.cell? ⟨gb122,3,none⟩ = some (.string (⟨#[]⟩ : ByteArray)):=(blk_cell BK122.out 3).trans rfl; have hfz16_0:=blk_frozen BK122.out 0; have hfz16_1:=blk_frozen BK122.out 1; have hfz16_2:=blk_frozen BK122.out 2; have hfz16_3:=blk_frozen BK122.out 3))
   (try simp only [Act.put,List.setIfInBounds_toArray,List.set_cons_zero,List.set_cons_succ])
   go_cut [] (fun wc => ∃ (kq : Nat) (x113000_9 : ByteArray) (x113001_9 : Bool) (x123002_9 : Int) (x123003_9 : ByteArray),Aside0 (sheet_Cells.j1 kq a0 x5_1 x6_1 x113000_9 x113001_9 t119 t123 x123002_9 x123003_9 = some (r1,r2)) ∧ Aside0 (kq ≤ k1) ∧ Aside0 (Kd.R k52 52 wc w.heap.size (fun k_ => k_ ≠ gb122) u5 x5_1) ∧ Aside0 (wc.heap[gb122]? = some (.cells #[.int .i64 t119,.int .i64 t123,.int .i64 x123002_9,.string x123003_9] 52 (0,0))) ∧ Aside0 (IsS76 w wc gb112 x113000_9 x113001_9) ∧ Aside0 (Below w.heap.size w wc))
   case first =>
    have H:=HC10.out
    clear HC10
    by_cases c17 : t123 ≤ 24
    ·rw [if_pos c17] at H
     have c17b0 : decide (t123 ≤ 24) = true:=decide_eq_true c17
     clear c17
     (first | rw [c17b0] | (simp only [i64_w,i32_w]; rw [c17b0]) | skip)
     replace H:=Option.bind_eq_some_iff.mp H
     obtain ⟨⟨t126,t127,t128⟩,A180,H⟩:=H
     replace H : (sheet_Cells.j1 k1 a0 x5_1 x6_1 t127 t128 t119 t123 0 t126) = some (r1,r2):=H
     have A18:=Aside0.mk A180
     clear A180
     have H':=Aside0.mk H
     clear H
     have hnb19:=NB122_112.out
     have hnc19:=NB112_122.out
     have hcz20_0 : w15.cell? ⟨gb122,0,none⟩ = some (.int .i64 t119):=(blk_cell BK122.out 0).trans rfl
     have hcz20_1 : w15.cell? ⟨gb122,1,none⟩ = some (.int .i64 0):=(blk_cell BK122.out 1).trans rfl
     have hcz20_2 : w15.cell? ⟨gb122,2,none⟩ = some (.int .i64 0):=(blk_cell BK122.out 2).trans rfl
     have hcz20_3 : w15.cell? ⟨gb122,3,none⟩ = some (.string (⟨#[]⟩ : ByteArray)):=(blk_cell BK122.out 3).trans rfl
     have hfz20_0:=blk_frozen BK122.out 0
     have hfz20_1:=blk_frozen BK122.out 1
     have hfz20_2:=blk_frozen BK122.out 2
     have hfz20_3:=blk_frozen BK122.out 3
     go_wp2_with (first | ((with_reducible refine gate_callee (f:=36) rfl ?_); refine goesL_ (some 33) rfl rfl Try.func36 (by kernel_rfl) rfl #[.pointer (some ⟨gb112,0,none⟩),.int .i64 t123] rfl (by (try simp only [List.map_toArray,List.map_cons,List.map_nil]); first | done | rfl | (simp only [List.length_drop,List.length_take]; rfl) | (simp only [ByteArray.size_append,Int.natCast_add]; rfl) | (simp [ByteArray.size_append,Int.add_assoc]; done)) ?_; (with_reducible refine (sheet_reader_take.calls gb112 t124 t125 t123 t126 t127 t128 w _ ?side1 ?side2 A18.out).mono ?_); (case side1 => repeat (first | (with_reducible first | exact HI112.out | apply IsS76.alloc | apply IsS76.drewN | apply IsS76.drew | apply IsS76.set_0 | apply IsS76.set_1 | refine IsS76.far ?_ NB112_122.out _) | exact HI112.out)); (case side2 => repeat (first | (with_reducible first | exact HB.out | apply below_alloc | apply pw_below_drewN | apply below_drew1 | refine below_set ?_ (IsS76.ge HI112.out) | refine below_set ?_ GE122.out) | exact HB.out)); rintro e w21 ⟨rfl,hi,hb,hk⟩; refine ⟨_,rfl,?_⟩; have n0_:=Aside0.mk (Kd.R_mono (Kd.R_keep (IsS76.apart (show IsS76 w _ gb112 t124 t125 from by repeat (first | (with_reducible first | exact HI112.out | apply IsS76.alloc | apply IsS76.drewN | apply IsS76.drew | apply IsS76.set_0 | apply IsS76.set_1 | refine IsS76.far ?_ NB112_122.out _) | exact HI112.out)) (by (with_reducible repeat (first | apply Kd.R_alloc | apply Kd.R_drewN | apply Kd.R_drew)); exact (Kd.R_mono (Kd.R_far (p:=⟨gb122,1,none⟩) (Kd.R_mono HO_5.out (fun k_ hk => (⟨hk,hk.2⟩ : _ ∧ k_ ≠ gb122))) (fun _ hk => hk.2) (.int .i64 t123)) (fun _ h_ => h_.1))) (by decide)) hk (fun _ h => h.2)) (fun _ h => h.1)); have n1_:=Aside0.mk (KeepBut.blk hk (g':=gb122) (o:=.cells #[.int .i64 t119,.int .i64 t123,.int .i64 0,.string (⟨#[]⟩ : ByteArray)] 52 (0,0)) (by (with_reducible repeat (first | refine blk_drewN ?_ _ | refine blk_drew ?_ | refine blk_alloc ?_ _)); refine blk_put (cs:=#[.int .i64 t119,.int .i64 0,.int .i64 0,.string (⟨#[]⟩ : ByteArray)]) ?_ 1 _ rfl; (with_reducible repeat (first | refine blk_drewN ?_ _ | refine blk_drew ?_ | refine blk_alloc ?_ _)); exact BK122.out) NB122_112.out (by simp)); have n2_:=Aside0.mk (hb); have n3_:=Aside0.mk (hi); clear HO_5; clear BK122; clear HB; clear HI112; have HO_5:=n0_; have BK122:=n1_; have HB:=n2_; have HI112:=n3_; clear n0_ n1_ n2_ n3_; (try clear hb); (try clear hb2); (try clear hk); (try clear hi); have hcz22_0 : w21.cell? ⟨gb122,0,none⟩ = some (.int .i64 t119):=(blk_cell BK122.out 0).trans rfl; have hcz22_1 : w21.cell? ⟨gb122,1,none⟩ = some (.int .i64 t123):=(blk_cell BK122.out 1).trans rfl; have hcz22_2 : w21.cell? ⟨gb122,2,none⟩ = some (.int .i64 0):=(blk_cell BK122.out 2).trans rfl; have hcz22_3 : w21.cell? ⟨gb122,3,none⟩ = some (.string (⟨#[]⟩ : ByteArray)):=(blk_cell BK122.out 3).trans rfl; have hfz22_0:=blk_frozen BK122.out 0; have hfz22_1:=blk_frozen BK122.out 1; have hfz22_2:=blk_frozen BK122.out 2; have hfz22_3:=blk_frozen BK122.out 3))
     go_meet
     case rel => exact ⟨_,(t127),(t128),(0),(t126),H',⟨by have:=HK1.out; first | omega | exact Nat.le_refl _⟩,⟨by (with_reducible repeat (first | apply Kd.R_alloc | apply Kd.R_drewN | apply Kd.R_drew)); exact Kd.R_mono (Kd.R_far (p:=⟨gb122,3,none⟩) (Kd.R_mono HO_5.out (fun k_ hk => (⟨hk,hk.2⟩ : _ ∧ k_ ≠ gb122))) (fun _ hk => hk.2) (.string t126)) (fun _ hk => hk.1.2)⟩,⟨by (with_reducible repeat (first | refine blk_drewN ?_ _ | refine blk_drew ?_ | refine blk_alloc ?_ _)); refine blk_put (cs:=#[.int .i64 t119,.int .i64 t123,.int .i64 0,.string (⟨#[]⟩ : ByteArray)]) ?_ 3 _ rfl; (with_reducible repeat (first | refine blk_drewN ?_ _ | refine blk_drew ?_ | refine blk_alloc ?_ _)); exact BK122.out⟩,⟨by repeat (first | (with_reducible first | exact HI112.out | apply IsS76.alloc | apply IsS76.drewN | apply IsS76.drew | apply IsS76.set_0 | apply IsS76.set_1 | refine IsS76.far ?_ NB112_122.out _) | exact HI112.out)⟩,⟨by repeat (first | (with_reducible first | exact HB.out | apply below_alloc | apply pw_below_drewN | apply below_drew1 | refine below_set ?_ (IsS76.ge HI112.out) | refine below_set ?_ GE122.out) | exact HB.out)⟩⟩
    rw [if_neg c17] at H
    have c17b0 : decide (t123 ≤ 24) = false:=decide_eq_false c17
    clear c17
    (first | rw [c17b0] | (simp only [i64_w,i32_w]; rw [c17b0]) | skip)
    replace H:=Option.bind_eq_some_iff.mp H
    obtain ⟨⟨t129,t130,t131⟩,A230,H⟩:=H
    replace H : (sheet_Cells.j1 k1 a0 x5_1 x6_1 t130 t131 t119 t123 t129 (⟨#[]⟩ : ByteArray)) = some (r1,r2):=H
    have A23:=Aside0.mk A230
    clear A230
    have H':=Aside0.mk H
    clear H
    go_wp2_with (first | ((with_reducible refine gate_callee (f:=37) rfl ?_); refine goesL_ (some 36) rfl rfl Try.func37 (by kernel_rfl) rfl #[.pointer (some ⟨gb112,0,none⟩),.int .i64 2] rfl (by (try simp only [List.map_toArray,List.map_cons,List.map_nil]); first | done | rfl | (simp only [List.length_drop,List.length_take]; rfl) | (simp only [ByteArray.size_append,Int.natCast_add]; rfl) | (simp [ByteArray.size_append,Int.add_assoc]; done)) ?_; (with_reducible refine (sheet_reader_num.calls k1 gb112 t124 t125 2 t129 t130 t131 w _ ?side1 ?side2 A23.out).mono ?_); (case side1 => repeat (first | (with_reducible first | exact HI112.out | apply IsS76.alloc | apply IsS76.drewN | apply IsS76.drew | apply IsS76.set_0 | apply IsS76.set_1 | refine IsS76.far ?_ NB112_122.out _) | exact HI112.out)); (case side2 => repeat (first | (with_reducible first | exact HB.out | apply below_alloc | apply pw_below_drewN | apply below_drew1 | refine below_set ?_ (IsS76.ge HI112.out) | refine below_set ?_ GE122.out) | exact HB.out)); rintro e w24 ⟨rfl,hi,hb,hk⟩; refine ⟨_,rfl,?_⟩; have n0_:=Aside0.mk (Kd.R_mono (Kd.R_keep (IsS76.apart (show IsS76 w _ gb112 t124 t125 from by repeat (first | (with_reducible first | exact HI112.out | apply IsS76.alloc | apply IsS76.drewN | apply IsS76.drew | apply IsS76.set_0 | apply IsS76.set_1 | refine IsS76.far ?_ NB112_122.out _) | exact HI112.out)) (by (with_reducible repeat (first | apply Kd.R_alloc | apply Kd.R_drewN | apply Kd.R_drew)); exact (Kd.R_mono (Kd.R_far (p:=⟨gb122,1,none⟩) (Kd.R_mono HO_5.out (fun k_ hk => (⟨hk,hk.2⟩ : _ ∧ k_ ≠ gb122))) (fun _ hk => hk.2) (.int .i64 t123)) (fun _ h_ => h_.1))) (by decide)) hk (fun _ h => h.2)) (fun _ h => h.1)); have n1_:=Aside0.mk (KeepBut.blk hk (g':=gb122) (o:=.cells #[.int .i64 t119,.int .i64 t123,.int .i64 0,.string (⟨#[]⟩ : ByteArray)] 52 (0,0)) (by (with_reducible repeat (first | refine blk_drewN ?_ _ | refine blk_drew ?_ | refine blk_alloc ?_ _)); refine blk_put (cs:=#[.int .i64 t119,.int .i64 0,.int .i64 0,.string (⟨#[]⟩ : ByteArray)]) ?_ 1 _ rfl; (with_reducible repeat (first | refine blk_drewN ?_ _ | refine blk_drew ?_ | refine blk_alloc ?_ _)); exact BK122.out) NB122_112.out (by simp)); have n2_:=Aside0.mk (hb); have n3_:=Aside0.mk (hi); clear HO_5; clear BK122; clear HB; clear HI112; have HO_5:=n0_; have BK122:=n1_; have HB:=n2_; have HI112:=n3_; clear n0_ n1_ n2_ n3_; (try clear hb); (try clear hb2); (try clear hk); (try clear hi); have hnb25:=NB122_112.out; have hnc25:=NB112_122.out; have hcz26_0 : w24.cell? ⟨gb122,0,none⟩ = some (.int .i64 t119):=(blk_cell BK122.out 0).trans rfl; have hcz26_1 : w24.cell? ⟨gb122,1,none⟩ = some (.int .i64 t123):=(blk_cell BK122.out 1).trans rfl; have hcz26_2 : w24.cell? ⟨gb122,2,none⟩ = some (.int .i64 0):=(blk_cell BK122.out 2).trans rfl; have hcz26_3 : w24.cell? ⟨gb122,3,none⟩ = some (.string (⟨#[]⟩ : ByteArray)):=(blk_cell BK122.out 3).trans rfl; have hfz26_0:=blk_frozen BK122.out 0; have hfz26_1:=blk_frozen BK122.out 1; have hfz26_2:=blk_frozen BK122.out 2; have hfz26_3:=blk_frozen BK122.out 3))
    go_meet
    case rel => exact ⟨_,(t130),(t131),(t129),((⟨#[]⟩ : ByteArray)),H',⟨by have:=HK1.out; first | omega | exact Nat.le_refl _⟩,⟨by (with_reducible repeat (first | apply Kd.R_alloc | apply Kd.R_drewN | apply Kd.R_drew)); exact Kd.R_mono (Kd.R_far (p:=⟨gb122,2,none⟩) (Kd.R_mono HO_5.out (fun k_ hk => (⟨hk,hk.2⟩ : _ ∧ k_ ≠ gb122))) (fun _ hk => hk.2) (.int .i64 t129)) (fun _ hk => hk.1.2)⟩,⟨by (with_reducible repeat (first | refine blk_drewN ?_ _ | refine blk_drew ?_ | refine blk_alloc ?_ _)); refine blk_put (cs:=#[.int .i64 t119,.int .i64 t123,.int .i64 0,.string (⟨#[]⟩ : ByteArray)]) ?_ 2 _ rfl; (with_reducible repeat (first | refine blk_drewN ?_ _ | refine blk_drew ?_ | refine blk_alloc ?_ _)); exact BK122.out⟩,⟨by repeat (first | (with_reducible first | exact HI112.out | apply IsS76.alloc | apply IsS76.drewN | apply IsS76.drew | apply IsS76.set_0 | apply IsS76.set_1 | refine IsS76.far ?_ NB112_122.out _) | exact HI112.out)⟩,⟨by repeat (first | (with_reducible first | exact HB.out | apply below_alloc | apply pw_below_drewN | apply below_drew1 | refine below_set ?_ (IsS76.ge HI112.out) | refine below_set ?_ GE122.out) | exact HB.out)⟩⟩
   clear HC10
   try clear c1
   try clear c2
   try clear p2
   try clear c3
   try clear c7
   try clear c7b0
   try clear c12
   try clear c13
   try clear c17
   try clear c17b0
   try clear c19
   try clear c25
   try clear hcz14_0
   try clear hcz14_1
   try clear hcz14_2
   try clear hcz14_3
   try clear hcz16_0
   try clear hcz16_1
   try clear hcz16_2
   try clear hcz16_3
   try clear hcz20_0
   try clear hcz20_1
   try clear hcz20_2
   try clear hcz20_3
   try clear hcz22_0
   try clear hcz22_1
   try clear hcz22_2
   try clear hcz22_3
   try clear hcz26_0
   try clear hcz26_1
   try clear hcz26_2
   try clear hcz26_3
   try clear hfz14_0
   try clear hfz14_1
   try clear hfz14_2
   try clear hfz14_3
   try clear hfz16_0
   try clear hfz16_1
   try clear hfz16_2
   try clear hfz16_3
   try clear hfz20_0
   try clear hfz20_1
   try clear hfz20_2
   try clear hfz20_3
   try clear hfz22_0
   try clear hfz22_1
   try clear hfz22_2
   try clear hfz22_3
   try clear hfz26_0
   try clear hfz26_1
   try clear hfz26_2
   try clear hfz26_3
   try clear p2
   obtain ⟨kq,x113000_9,x113001_9,x123002_9,x123003_9,HA,HJ9,HO_5,BK122,HI112,HB⟩:=hcut
   cases kq with
   | zero => exact absurd HA.out (by simp [sheet_Cells.j1])
   | succ kj9 =>
    have H:=HA.out
    clear HA
    simp only [sheet_Cells.j1] at H
    by_cases c27 : x5_1.length < 3518437208883
    ·rw [if_pos c27] at H
     have LMc27:=Aside0.mk c27
     clear c27
     obtain ⟨y132,hy132⟩ : ∃ y_ : List (S52),y_ = (x5_1 ++ [(⟨t119,t123,x123002_9,x123003_9⟩ : S52)]):=⟨_,rfl⟩
     replace H : (sheet_Cells.l0 kj9 a0 y132 (wrap64 (x6_1 - 1)) x113000_9 x113001_9) = some (r1,r2):=by first | (rw [hy132]; with_reducible exact H) | (have H2_:=(Option.bind_some _ _).symm.trans H; rw [hy132]; with_reducible exact H2_) | (have H2_:=(Option.bind_some _ _).symm.trans H; with_reducible exact H2_) | with_reducible exact H | (rw [hy132]; exact H) | exact H
     have Ny132:=Aside0.mk hy132
     clear hy132
     have H':=Aside0.mk H
     clear H
     have hnb28:=NB122_112.out
     have hnc28:=NB112_122.out
     have hcz29_0 : wc.cell? ⟨gb122,0,none⟩ = some (.int .i64 t119):=(blk_cell BK122.out 0).trans rfl
     have hcz29_1 : wc.cell? ⟨gb122,1,none⟩ = some (.int .i64 t123):=(blk_cell BK122.out 1).trans rfl
     have hcz29_2 : wc.cell? ⟨gb122,2,none⟩ = some (.int .i64 x123002_9):=(blk_cell BK122.out 2).trans rfl
     have hcz29_3 : wc.cell? ⟨gb122,3,none⟩ = some (.string x123003_9):=(blk_cell BK122.out 3).trans rfl
     have hfz29_0:=blk_frozen BK122.out 0
     have hfz29_1:=blk_frozen BK122.out 1
     have hfz29_2:=blk_frozen BK122.out 2
     have hfz29_3:=blk_frozen BK122.out 3
     go_wp2_with (first | ((with_reducible refine gate_builtin (b:=.append) (xs:=#[.tmp 38,.tmp 40]) rfl ?_); at_builtin; refine Kd.R_append k52 (w0:=w) w.heap.size rfl (.tmp 38) (.tmp 40) 22 52 (.agg #[(.int .i64 0),(.int .i64 0),(.int .i64 0),(.string ⟨#[]⟩)]) 40 rfl Try.underlying22 info52 rfl (by decide) (by omega) u5 x5_1 (⟨t119,t123,x123002_9,x123003_9⟩ : S52) [.int .i64 t119,.int .i64 t123,.int .i64 x123002_9,.string x123003_9] (fun k_ => k_ ≠ gb122) (fun _ => False) rfl rfl ?aP (fun _ hk => hk.elim) ?aF ?aO ?aB ?aS ?aL ?_; (case aP => exact k52_mkM _ _ _ (⟨t119,t123,x123002_9,x123003_9⟩ : S52)); (case aB => exact (by repeat (first | (with_reducible first | exact HB.out | apply below_alloc | apply pw_below_drewN | apply below_drew1 | refine below_set ?_ (IsS76.ge HI112.out) | refine below_set ?_ GE122.out) | exact HB.out))); (case aF => exact (fun k_ hk => Kd.freshB (g:=gb122) (o:=.cells #[.int .i64 t119,.int .i64 t123,.int .i64 x123002_9,.string x123003_9] 52 (0,0)) (by (with_reducible repeat (first | refine blk_drewN ?_ _ | refine blk_drew ?_ | refine blk_alloc ?_ _)); exact BK122.out) k_ hk)); (case aO => exact (by (with_reducible repeat (first | apply Kd.R_alloc | apply Kd.R_drewN | apply Kd.R_drew)); exact HO_5.out)); (case aS => exact (below_size (by repeat (first | (with_reducible first | exact HB.out | apply below_alloc | apply pw_below_drewN | apply below_drew1 | refine below_set ?_ (IsS76.ge HI112.out) | refine below_set ?_ GE122.out) | exact HB.out)))); (case aL => have:=LMc27.out; omega); intro v133 w30 ho hb hg hat; rw [← Ny132.out] at ho; have n0_:=Aside0.mk (blk_grown (g:=gb122) (o:=.cells #[.int .i64 t119,.int .i64 t123,.int .i64 x123002_9,.string x123003_9] 52 (0,0)) (by (with_reducible repeat (first | refine blk_drewN ?_ _ | refine blk_drew ?_ | refine blk_alloc ?_ _)); exact BK122.out) hg (Kd.R_away HO_5.out (fun _ hk => hk))); have n1_:=Aside0.mk (IsS76.grown (show IsS76 w _ gb112 x113000_9 x113001_9 from by repeat (first | (with_reducible first | exact HI112.out | apply IsS76.alloc | apply IsS76.drewN | apply IsS76.drew | apply IsS76.set_0 | apply IsS76.set_1 | refine IsS76.far ?_ NB112_122.out _) | exact HI112.out)) hg (IsS76.own_ne HI112.out HO_5.out (by decide))); have n2_:=Aside0.mk (hb); have n3_:=Aside0.mk (ho); clear BK122; clear HI112; clear HB; clear HO_5; have BK122:=n0_; have HI112:=n1_; have HB:=n2_; have HO134:=n3_; clear n0_ n1_ n2_ n3_; clear ho hb hg hat))
     go_roundg kj9
     case measure => have:=HK1.out; have:=HJ9.out; omega
     case rel => exact ⟨(y132),(wrap64 (x6_1 - 1)),(x113000_9),(x113001_9),(by first | rfl | (simp; done) | (simp [*]; done)),H',⟨by have:=HK1.out; have:=HJ9.out; omega⟩,⟨by (with_reducible repeat (first | apply Kd.R_alloc | apply Kd.R_drewN | apply Kd.R_drew)); exact Kd.R_mono HO134.out (fun _ hk => trivial)⟩,⟨by repeat (first | (with_reducible first | exact HI112.out | apply IsS76.alloc | apply IsS76.drewN | apply IsS76.drew | apply IsS76.set_0 | apply IsS76.set_1 | refine IsS76.far ?_ NB112_122.out _) | exact HI112.out)⟩,⟨by repeat (first | (with_reducible first | exact HB.out | apply below_alloc | apply pw_below_drewN | apply below_drew1 | refine below_set ?_ (IsS76.ge HI112.out) | refine below_set ?_ GE122.out) | exact HB.out)⟩⟩
    rw [if_neg c27] at H
    exact absurd H (by simp)
  rw [if_neg c7] at H
  have c7b0 : decide (0 < x6_1) = false:=decide_eq_false c7
  clear c7
  replace H:=Option.bind_eq_some_iff.mp H
  obtain ⟨⟨t135,t136⟩,A310,H⟩:=H
  replace H : (if x113001_1 = true then (sheet_Cells.j2 k1 x5_1 true) else (if t136 = true then (sheet_Cells.j2 k1 x5_1 (t135.toList != a0.toList)) else (sheet_Cells.j2 k1 x5_1 true))) = some (r1,r2):=H
  have A31:=Aside0.mk A310
  clear A310
  have HC32:=Aside0.mk H
  clear H
  obtain ⟨Ao33,co33,eo33⟩:=Kd.R_slice HO_5.out
  subst eo33
  go_upto_region 14 with (first | ((with_reducible refine gate_callee (f:=11) rfl ?_); refine goesL_ (some 44) rfl rfl Try.func11 (by kernel_rfl) rfl #[.slice Ao33 x5_1.length co33] rfl (by (try simp only [List.map_toArray,List.map_cons,List.map_nil]); first | done | rfl | (simp only [List.length_drop,List.length_take]; rfl) | (simp only [ByteArray.size_append,Int.natCast_add]; rfl) | (simp [ByteArray.size_append,Int.add_assoc]; done)) ?_; (with_reducible refine (sheet_Leaf.calls _ _ x5_1 t135 t136 _ ?side1 ?side2 A31.out).mono ?_); (case side1 => repeat (first | exact (Kd.R_reads' HO_5.out).2.2 | (with_reducible refine Kd.C_alloc ?_ _) | (with_reducible refine Kd.C_drewN ?_ _) | (with_reducible refine Kd.C_drew ?_))); (case side2 => exact (Kd.R_reads' HO_5.out).2.1); rintro e w34 ⟨rfl,hb⟩; refine ⟨_,rfl,?_⟩; have n0_:=Aside0.mk (Kd.R_below (by (with_reducible repeat (first | apply Kd.R_alloc | apply Kd.R_drewN | apply Kd.R_drew)); exact HO_5.out) hb); have n1_:=Aside0.mk (IsS76.below (by repeat (first | (with_reducible first | exact HI112.out | apply IsS76.alloc | apply IsS76.drewN | apply IsS76.drew | apply IsS76.set_0 | apply IsS76.set_1) | exact HI112.out)) hb); have n2_:=Aside0.mk (below_step (by repeat (first | (with_reducible first | exact HB.out | apply below_alloc | apply pw_below_drewN | apply below_drew1 | refine below_set ?_ (IsS76.ge HI112.out)) | exact HB.out)) hb); clear HO_5; clear HI112; clear HB; have HO_5:=n0_; have HI112:=n1_; have HB:=n2_; clear n0_ n1_ n2_; (try clear hb); (try clear hb2); (try clear hk); (try clear hi)))
  (try simp only [Act.put,List.setIfInBounds_toArray,List.set_cons_zero,List.set_cons_succ])
  go_cut [59] (fun v59 wc => ∃ (kq : Nat) (x59_31 : Bool),v59 = .bool x59_31 ∧ Aside0 (sheet_Cells.j2 kq x5_1 x59_31 = some (r1,r2)) ∧ Aside0 (kq ≤ k1) ∧ Aside0 (Kd.R k52 52 wc w.heap.size (fun _ => True) (.slice Ao33 x5_1.length co33) x5_1) ∧ Aside0 (Below w.heap.size w wc))
  case first =>
   have H:=HC32.out
   clear HC32
   by_cases c35 : x113001_1 = true
   ·subst c35
    have H1 : (sheet_Cells.j2 k1 x5_1 true) = some (r1,r2):=by rw [if_pos rfl] at H; exact H
    clear H
    have H:=H1
    clear H1
    have H':=Aside0.mk H
    clear H
    obtain ⟨HGz36,hgz36⟩:=HI112.out
    have hcz36_0:=cellS76_0 HGz36
    have hcz36_1:=cellS76_1 HGz36
    have hfz36_0:=blk_frozen HGz36 0
    have hfz36_1:=blk_frozen HGz36 1
    clear HGz36 hgz36
    go_wp2
    go_meet
    case rel => exact ⟨_,(true),(by first | rfl | (simp; done) | (simp [*]; done)),H',⟨by have:=HK1.out; first | omega | exact Nat.le_refl _⟩,⟨by (with_reducible repeat (first | apply Kd.R_alloc | apply Kd.R_drewN | apply Kd.R_drew)); exact HO_5.out⟩,⟨by repeat (first | (with_reducible first | exact HB.out | apply below_alloc | apply pw_below_drewN | apply below_drew1 | refine below_set ?_ (IsS76.ge HI112.out)) | exact HB.out)⟩⟩
   replace c35:=Bool.eq_false_iff.mpr c35
   subst c35
   have H1 : (if t136 = true then (sheet_Cells.j2 k1 x5_1 (t135.toList != a0.toList)) else (sheet_Cells.j2 k1 x5_1 true)) = some (r1,r2):=by rw [if_neg (show ¬ (false = true) by decide)] at H; exact H
   clear H
   have H:=H1
   clear H1
   by_cases c37 : t136 = true
   ·subst c37
    have H1 : (sheet_Cells.j2 k1 x5_1 (t135.toList != a0.toList)) = some (r1,r2):=by rw [if_pos rfl] at H; exact H
    clear H
    have H:=H1
    clear H1
    have H':=Aside0.mk H
    clear H
    obtain ⟨HGz38,hgz38⟩:=HI112.out
    have hcz38_0:=cellS76_0 HGz38
    have hcz38_1:=cellS76_1 HGz38
    have hfz38_0:=blk_frozen HGz38 0
    have hfz38_1:=blk_frozen HGz38 1
    clear HGz38 hgz38
    go_wp2
    go_meet
    case rel => exact ⟨_,((t135.toList != a0.toList)),(by first | rfl | (simp; done) | (simp [*]; done)),H',⟨by have:=HK1.out; first | omega | exact Nat.le_refl _⟩,⟨by (with_reducible repeat (first | apply Kd.R_alloc | apply Kd.R_drewN | apply Kd.R_drew)); exact HO_5.out⟩,⟨by repeat (first | (with_reducible first | exact HB.out | apply below_alloc | apply pw_below_drewN | apply below_drew1 | refine below_set ?_ (IsS76.ge HI112.out)) | exact HB.out)⟩⟩
   replace c37:=Bool.eq_false_iff.mpr c37
   subst c37
   have H1 : (sheet_Cells.j2 k1 x5_1 true) = some (r1,r2):=by rw [if_neg (show ¬ (false = true) by decide)] at H; exact H
   clear H
   have H:=H1
   clear H1
   have H':=Aside0.mk H
   clear H
   obtain ⟨HGz39,hgz39⟩:=HI112.out
   have hcz39_0:=cellS76_0 HGz39
   have hcz39_1:=cellS76_1 HGz39
   have hfz39_0:=blk_frozen HGz39 0
   have hfz39_1:=blk_frozen HGz39 1
   clear HGz39 hgz39
   go_wp2
   go_meet
   case rel => exact ⟨_,(true),(by first | rfl | (simp; done) | (simp [*]; done)),H',⟨by have:=HK1.out; first | omega | exact Nat.le_refl _⟩,⟨by (with_reducible repeat (first | apply Kd.R_alloc | apply Kd.R_drewN | apply Kd.R_drew)); exact HO_5.out⟩,⟨by repeat (first | (with_reducible first | exact HB.out | apply below_alloc | apply pw_below_drewN | apply below_drew1 | refine below_set ?_ (IsS76.ge HI112.out)) | exact HB.out)⟩⟩
  clear HC32
  try clear c1
  try clear c2
  try clear p2
  try clear c3
  try clear p6
  try clear c7
  try clear c7b0
  try clear c11
  try clear c12
  try clear c13
  try clear c17
  try clear c17b0
  try clear c19
  try clear c25
  try clear c27
  try clear c28
  try clear c35
  try clear c36
  try clear c37
  try clear hcz14_0
  try clear hcz14_1
  try clear hcz14_2
  try clear hcz14_3
  try clear hcz16_0
  try clear hcz16_1
  try clear hcz16_2
  try clear hcz16_3
  try clear hcz20_0
  try clear hcz20_1
  try clear hcz20_2
  try clear hcz20_3
  try clear hcz22_0
  try clear hcz22_1
  try clear hcz22_2
  try clear hcz22_3
  try clear hcz26_0
  try clear hcz26_1
  try clear hcz26_2
  try clear hcz26_3
  try clear hcz29_0
  try clear hcz29_1
  try clear hcz29_2
  try clear hcz29_3
  try clear hcz36_0
  try clear hcz36_1
  try clear hcz38_0
  try clear hcz38_1
  try clear hcz39_0
  try clear hcz39_1
  try clear hfz14_0
  try clear hfz14_1
  try clear hfz14_2
  try clear hfz14_3
  try clear hfz16_0
  try clear hfz16_1
  try clear hfz16_2
  try clear hfz16_3
  try clear hfz20_0
  try clear hfz20_1
  try clear hfz20_2
  try clear hfz20_3
  try clear hfz22_0
  try clear hfz22_1
  try clear hfz22_2
  try clear hfz22_3
  try clear hfz26_0
  try clear hfz26_1
  try clear hfz26_2
  try clear hfz26_3
  try clear hfz29_0
  try clear hfz29_1
  try clear hfz29_2
  try clear hfz29_3
  try clear hfz36_0
  try clear hfz36_1
  try clear hfz38_0
  try clear hfz38_1
  try clear hfz39_0
  try clear hfz39_1
  try clear p2
  obtain ⟨kq,x59_31,rfl,HA,HJ31,HO_5,HB⟩:=hcut
  cases kq with
  | zero => exact absurd HA.out (by simp [sheet_Cells.j2])
  | succ kj31 =>
   have H:=HA.out
   clear HA
   simp only [sheet_Cells.j2] at H
   by_cases c40 : x59_31 = true
   ·subst c40
    have H1 : (some (([] : List (S52)),false)) = some (r1,r2):=by rw [if_pos rfl] at H; exact H
    clear H
    have H:=H1
    clear H1
    simp only [Option.some.injEq,Prod.mk.injEq] at H
    obtain ⟨rfl,rfl⟩:=H
    go_wp2
    go_ret2
    exact ⟨_,by first | rfl | (simp [errW_none,errW_some] <;> rfl) | (simp [*,errW_none,errW_some] <;> rfl),by first | exact Kd.R_nil _ _ _ _ _ | exact Kd.N_nil _ _ _ _ _ | exact Kd.V_nil _ _ _ _ _ | exact Kd.Q_nil _ _ _ _ _ | exact Kd.S_nil _ _ _ _ _,by repeat (first | (with_reducible first | exact HB.out | apply below_alloc | apply pw_below_drewN | apply below_drew1) | exact HB.out)⟩
   replace c40:=Bool.eq_false_iff.mpr c40
   subst c40
   have H1 : (some (x5_1,true)) = some (r1,r2):=by rw [if_neg (show ¬ (false = true) by decide)] at H; exact H
   clear H
   have H:=H1
   clear H1
   simp only [Option.some.injEq,Prod.mk.injEq] at H
   obtain ⟨rfl,rfl⟩:=H
   go_wp2
   go_ret2
   exact ⟨_,by first | rfl | (simp [errW_none,errW_some] <;> rfl) | (simp [*,errW_none,errW_some] <;> rfl),by (with_reducible repeat (first | apply Kd.R_alloc | apply Kd.R_drewN | apply Kd.R_drew)); exact HO_5.out,by repeat (first | (with_reducible first | exact HB.out | apply below_alloc | apply pw_below_drewN | apply below_drew1) | exact HB.out)⟩

end Go.Proofs.Ytlgmabibcpkdmaa.PAll
