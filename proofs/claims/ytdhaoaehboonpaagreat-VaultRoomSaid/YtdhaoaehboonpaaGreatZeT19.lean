/- Of the texts that the row stands on, what it needs (part 19), put together by a program of this session. -/
import Derived.Test.YtdhaoaehboonpaaGreatZeT16
import Derived.Test.YtdhaoaehboonpaaGreatZeT17
import Derived.Test.YtdhaoaehboonpaaGreatZeT18
namespace Go.Proofs.YtdhaoaehboonpaaGreat.PRd
open Go.RowKit Go.Proofs.YtdhaoaehboonpaaGreatW.PrintWords Go.Proofs.YtdhaoaehboonpaaGreatW.PrintLast Go.Proofs.YtdhaoaehboonpaaGreatW.PrintMore
attribute [local go_sem] max2_int min2_int max_two min_two max_three min_three max_four min_four
set_option linter.unusedVariables false
set_option linter.unusedSimpArgs false
mutual
def sheet_Slots.l0 : Nat → ByteArray → List (S165) → Int → ByteArray → Bool → Option ((List (S165)) × Bool)
  | 0, _, _, _, _, _ => none
  | k + 1, x0, x5, x6, x168000, x168001 => if x6 > 0 then ((sheet_reader_num.f k x168000 x168001 4).bind fun bt174 => ((sheet_reader_num.f k bt174.2.1 bt174.2.2 2).bind fun bt178 => (if x5.length < 8796093022208 then (sheet_Slots.l0 k x0 (x5 ++ [(⟨bt174.1, bt178.1⟩ : S165)]) (wrap64 (x6 - 1)) bt178.2.1 bt178.2.2) else (none)))) else ((sheet_Index.f x5).bind fun bt184 => (if x168001 = true then (sheet_Slots.j1 k x5 true) else (if bt184.2 = true then (sheet_Slots.j1 k x5 (bt184.1.toList != x0.toList)) else (sheet_Slots.j1 k x5 true))))
def sheet_Slots.j1 : Nat → List (S165) → Bool → Option ((List (S165)) × Bool)
  | 0, _, _ => none
  | k + 1, x5, x48 => if x48 = true then (some (([] : List (S165)), false)) else (some (x5, true))
end
def sheet_Slots.f (k : Nat) (a0 : ByteArray) : Option ((List (S165)) × Bool) := (sheet_reader_take.f a0 false 1).bind fun bt168 => ((sheet_reader_num.f k bt168.2.1 bt168.2.2 1).bind fun bt171 => (sheet_Slots.l0 k a0 ([] : List (S165)) bt171.1 bt171.2.1 bt171.2.2))
set_option maxHeartbeats 8000000 in
set_option maxRecDepth 100000 in
theorem sheet_Slots.calls (k : Nat) (a0 : ByteArray) (r1 : List (S165)) (r2 : Bool) (w : World) (h : sheet_Slots.f k a0 = some (r1, r2)) :
    Calls Tryz.prog 108 #[.string a0] w fun e w' => ∃ v0_ : Value, e = .returned (.tuple #[v0_, .bool r2]) ∧ Kd.R k165 165 w' w.heap.size (fun _ => True) v0_ r1 ∧ Below w.heap.size w w' := by
  have hu259 := Tryz.underlying259
  have hu165 := Tryz.underlying165
  have HB := Aside0.mk (Below.refl w.heap.size w)
  have H : ((sheet_reader_take.f a0 false 1).bind fun bt168 => ((sheet_reader_num.f k bt168.2.1 bt168.2.2 1).bind fun bt171 => (sheet_Slots.l0 k a0 ([] : List (S165)) bt171.1 bt171.2.1 bt171.2.2))) = some (r1, r2) := h
  clear h
  replace H := Option.bind_eq_some_iff.mp H
  obtain ⟨⟨t168, t169, t170⟩, A20, H⟩ := H
  replace H : ((sheet_reader_num.f k t169 t170 1).bind fun bt171 => (sheet_Slots.l0 k a0 ([] : List (S165)) bt171.1 bt171.2.1 bt171.2.2)) = some (r1, r2) := H
  have A2 := Aside0.mk A20
  clear A20
  replace H := Option.bind_eq_some_iff.mp H
  obtain ⟨⟨t171, t172, t173⟩, A30, H⟩ := H
  replace H : (sheet_Slots.l0 k a0 ([] : List (S165)) t171 t172 t173) = some (r1, r2) := H
  have A3 := Aside0.mk A30
  clear A30
  have H' := Aside0.mk H
  clear H
  go_enter Tryz.func108, Tryz.ntmps108
  go_wp2_with (first | ((with_reducible refine gate_dst (N := 12) rfl ?_); refine box_event ?hg (N := 12) ?hd (cs := #[.string a0, .bool false]) (t := 259) ?hr ?_; (case hd => rfl); (case hg => rfl); (case hr => first | (go_simp; done) | (go_simp; rfl)); intro gb167 hg w4 hbox hb; have n0_ := Aside0.mk (below_step (by repeat (first | (with_reducible first | exact HB.out | apply below_alloc | apply pw_below_drewN | apply below_drew1) | exact HB.out)) hb); have n1_ := Aside0.mk ((show IsS259 w w4 gb167 a0 false from ⟨hbox, (by rw [hg]; exact (below_size (by repeat (first | (with_reducible first | exact HB.out | apply below_alloc | apply pw_below_drewN | apply below_drew1) | exact HB.out))) : w.heap.size ≤ gb167)⟩)); have n2_ := Aside0.mk ((by rw [hg]; exact (below_size (by repeat (first | (with_reducible first | exact HB.out | apply below_alloc | apply pw_below_drewN | apply below_drew1) | exact HB.out))) : w.heap.size ≤ gb167)); have n3_ := Aside0.mk ((by rw [hg]; exact (below_size (by repeat (first | (with_reducible first | exact HB.out | apply below_alloc | apply pw_below_drewN | apply below_drew1) | exact HB.out))) : w.heap.size ≤ gb167)); clear HB; have HB := n0_; have HI167 := n1_; have GW167 := n2_; have GE167 := n3_; clear n0_ n1_ n2_ n3_; clear hb hbox hg) | ((with_reducible refine gate_callee (f := 160) rfl ?_); refine goesL_ (some 14) rfl rfl Tryz.func160 (by kernel_rfl) rfl #[.pointer (some ⟨gb167, 0, none⟩), .int .i64 1] rfl (by (try simp only [List.map_toArray, List.map_cons, List.map_nil]); first | done | rfl | (simp only [List.length_drop, List.length_take]; rfl) | (simp only [ByteArray.size_append, Int.natCast_add]; rfl) | (simp [ByteArray.size_append, Int.add_assoc]; done)) ?_; (with_reducible refine (sheet_reader_take.calls gb167 a0 false 1 t168 t169 t170 w _ ?side1 ?side2 A2.out).mono ?_); (case side1 => repeat (first | (with_reducible first | exact HI167.out | apply IsS259.alloc | apply IsS259.drewN | apply IsS259.drew | apply IsS259.set_0 | apply IsS259.set_1) | exact HI167.out)); (case side2 => repeat (first | (with_reducible first | exact HB.out | apply below_alloc | apply pw_below_drewN | apply below_drew1 | refine below_set ?_ (IsS259.ge HI167.out)) | exact HB.out)); rintro e w5 ⟨rfl, hi, hb, hk⟩; refine ⟨_, rfl, ?_⟩; have n0_ := Aside0.mk (hb); have n1_ := Aside0.mk (hi); clear HB; clear HI167; have HB := n0_; have HI167 := n1_; clear n0_ n1_; (try clear hb); (try clear hb2); (try clear hk); (try clear hi)) | ((with_reducible refine gate_callee (f := 161) rfl ?_); refine goesL_ (some 16) rfl rfl Tryz.func161 (by kernel_rfl) rfl #[.pointer (some ⟨gb167, 0, none⟩), .int .i64 1] rfl (by (try simp only [List.map_toArray, List.map_cons, List.map_nil]); first | done | rfl | (simp only [List.length_drop, List.length_take]; rfl) | (simp only [ByteArray.size_append, Int.natCast_add]; rfl) | (simp [ByteArray.size_append, Int.add_assoc]; done)) ?_; (with_reducible refine (sheet_reader_num.calls k gb167 t169 t170 1 t171 t172 t173 w _ ?side1 ?side2 A3.out).mono ?_); (case side1 => repeat (first | (with_reducible first | exact HI167.out | apply IsS259.alloc | apply IsS259.drewN | apply IsS259.drew | apply IsS259.set_0 | apply IsS259.set_1) | exact HI167.out)); (case side2 => repeat (first | (with_reducible first | exact HB.out | apply below_alloc | apply pw_below_drewN | apply below_drew1 | refine below_set ?_ (IsS259.ge HI167.out)) | exact HB.out)); rintro e w6 ⟨rfl, hi, hb, hk⟩; refine ⟨_, rfl, ?_⟩; have n0_ := Aside0.mk (hb); have n1_ := Aside0.mk (hi); clear HB; clear HI167; have HB := n0_; have HI167 := n1_; clear n0_ n1_; (try clear hb); (try clear hb2); (try clear hk); (try clear hi)))
  go_loopg [5, 6] k (fun kq v5 v6 w' => ∃ (x5_1 : List (S165)) (x6_1 : Int) (x168000_1 : ByteArray) (x168001_1 : Bool), v6 = .int .i64 x6_1 ∧ Aside0 (sheet_Slots.l0 kq a0 x5_1 x6_1 x168000_1 x168001_1 = some (r1, r2)) ∧ Aside0 (kq ≤ k) ∧ Aside0 (Kd.R k165 165 w' w.heap.size (fun _ => True) v5 x5_1) ∧ Aside0 (IsS259 w w' gb167 x168000_1 x168001_1) ∧ Aside0 (Below w.heap.size w w'))
  case atStart => exact ⟨(([] : List (S165))), (t171), (t172), (t173), (by first | rfl | (simp; done) | (simp [*]; done)), H', ⟨Nat.le_refl _⟩, ⟨by first | exact Kd.R_nil _ _ _ _ _ | exact Kd.N_nil _ _ _ _ _ | exact Kd.V_nil _ _ _ _ _ | exact Kd.Q_nil _ _ _ _ _ | exact Kd.S_nil _ _ _ _ _⟩, ⟨by repeat (first | (with_reducible first | exact HI167.out | apply IsS259.alloc | apply IsS259.drewN | apply IsS259.drew | apply IsS259.set_0 | apply IsS259.set_1) | exact HI167.out)⟩, ⟨by repeat (first | (with_reducible first | exact HB.out | apply below_alloc | apply pw_below_drewN | apply below_drew1 | refine below_set ?_ (IsS259.ge HI167.out)) | exact HB.out)⟩⟩
  case round =>
    clear H'
    try clear c1
    try clear p2
    obtain ⟨x5_1, x6_1, x168000_1, x168001_1, rfl, HA, HK1, HO_5, HI167, HB⟩ := hrel
    cases gk with
    | zero => exact absurd HA.out (by simp [sheet_Slots.l0])
    | succ k1 =>
      have H := HA.out
      clear HA
      simp only [sheet_Slots.l0] at H
      by_cases c7 : x6_1 > 0
      · rw [if_pos c7] at H
        have c7b0 : decide (0 < x6_1) = true := decide_eq_true c7
        clear c7
        replace H := Option.bind_eq_some_iff.mp H
        obtain ⟨⟨t174, t175, t176⟩, A80, H⟩ := H
        replace H : ((sheet_reader_num.f k1 t175 t176 2).bind fun bt178 => (if x5_1.length < 8796093022208 then (sheet_Slots.l0 k1 a0 (x5_1 ++ [(⟨t174, bt178.1⟩ : S165)]) (wrap64 (x6_1 - 1)) bt178.2.1 bt178.2.2) else (none))) = some (r1, r2) := H
        have A8 := Aside0.mk A80
        clear A80
        replace H := Option.bind_eq_some_iff.mp H
        obtain ⟨⟨t178, t179, t180⟩, A90, H⟩ := H
        replace H : (if x5_1.length < 8796093022208 then (sheet_Slots.l0 k1 a0 (x5_1 ++ [(⟨t174, t178⟩ : S165)]) (wrap64 (x6_1 - 1)) t179 t180) else (none)) = some (r1, r2) := H
        have A9 := Aside0.mk A90
        clear A90
        by_cases c10 : x5_1.length < 8796093022208
        · rw [if_pos c10] at H
          have LMc10 := Aside0.mk c10
          clear c10
          obtain ⟨y181, hy181⟩ : ∃ y_ : List (S165), y_ = (x5_1 ++ [(⟨t174, t178⟩ : S165)]) := ⟨_, rfl⟩
          replace H : (sheet_Slots.l0 k1 a0 y181 (wrap64 (x6_1 - 1)) t179 t180) = some (r1, r2) := by first | (rw [hy181]; with_reducible exact H) | (have H2_ := (Option.bind_some _ _).symm.trans H; rw [hy181]; with_reducible exact H2_) | (have H2_ := (Option.bind_some _ _).symm.trans H; with_reducible exact H2_) | with_reducible exact H | (rw [hy181]; exact H) | exact H
          have Ny181 := Aside0.mk hy181
          clear hy181
          have H' := Aside0.mk H
          clear H
          go_wp2_with (first | ((with_reducible refine gate_callee (f := 161) rfl ?_); refine goesL_ (some 22) rfl rfl Tryz.func161 (by kernel_rfl) rfl #[.pointer (some ⟨gb167, 0, none⟩), .int .i64 4] rfl (by (try simp only [List.map_toArray, List.map_cons, List.map_nil]); first | done | rfl | (simp only [List.length_drop, List.length_take]; rfl) | (simp only [ByteArray.size_append, Int.natCast_add]; rfl) | (simp [ByteArray.size_append, Int.add_assoc]; done)) ?_; (with_reducible refine (sheet_reader_num.calls k1 gb167 x168000_1 x168001_1 4 t174 t175 t176 w _ ?side1 ?side2 A8.out).mono ?_); (case side1 => repeat (first | (with_reducible first | exact HI167.out | apply IsS259.alloc | apply IsS259.drewN | apply IsS259.drew | apply IsS259.set_0 | apply IsS259.set_1) | exact HI167.out)); (case side2 => repeat (first | (with_reducible first | exact HB.out | apply below_alloc | apply pw_below_drewN | apply below_drew1 | refine below_set ?_ (IsS259.ge HI167.out)) | exact HB.out)); rintro e w11 ⟨rfl, hi, hb, hk⟩; refine ⟨_, rfl, ?_⟩; have n0_ := Aside0.mk (Kd.R_mono (Kd.R_keep (IsS259.apart (show IsS259 w _ gb167 x168000_1 x168001_1 from by repeat (first | (with_reducible first | exact HI167.out | apply IsS259.alloc | apply IsS259.drewN | apply IsS259.drew | apply IsS259.set_0 | apply IsS259.set_1) | exact HI167.out)) (by (with_reducible repeat (first | apply Kd.R_alloc | apply Kd.R_drewN | apply Kd.R_drew)); exact HO_5.out) (by decide)) hk (fun _ h => h.2)) (fun _ h => h.1)); have n1_ := Aside0.mk (hb); have n2_ := Aside0.mk (hi); clear HO_5; clear HB; clear HI167; have HO_5 := n0_; have HB := n1_; have HI167 := n2_; clear n0_ n1_ n2_; (try clear hb); (try clear hb2); (try clear hk); (try clear hi)) | ((with_reducible refine gate_dst (N := 7) rfl ?_); refine box_event ?hg (N := 7) ?hd (cs := #[.int .i64 0, .int .i64 0]) (t := 165) ?hr ?_; (case hd => rfl); (case hg => rfl); (case hr => first | (go_simp; done) | (go_simp; rfl)); intro gb177 hg w12 hbox hb; have n0_ := Aside0.mk (Kd.R_below (Kd.R_elderB (by (with_reducible repeat (first | apply Kd.R_alloc | apply Kd.R_drewN | apply Kd.R_drew)); exact HO_5.out) gb177 (Nat.le_of_eq hg.symm)) hb); have n1_ := Aside0.mk (IsS259.below (by repeat (first | (with_reducible first | exact HI167.out | apply IsS259.alloc | apply IsS259.drewN | apply IsS259.drew | apply IsS259.set_0 | apply IsS259.set_1) | exact HI167.out)) hb); have n2_ := Aside0.mk (below_step (by repeat (first | (with_reducible first | exact HB.out | apply below_alloc | apply pw_below_drewN | apply below_drew1 | refine below_set ?_ (IsS259.ge HI167.out)) | exact HB.out)) hb); have n3_ := Aside0.mk (hbox); have n4_ := Aside0.mk ((by rw [hg]; exact (below_size (by repeat (first | (with_reducible first | exact HB.out | apply below_alloc | apply pw_below_drewN | apply below_drew1 | refine below_set ?_ (IsS259.ge HI167.out)) | exact HB.out))) : w.heap.size ≤ gb177)); have n5_ := Aside0.mk ((by rw [hg]; exact (below_size (by repeat (first | (with_reducible first | exact HB.out | apply below_alloc | apply pw_below_drewN | apply below_drew1 | refine below_set ?_ (IsS259.ge HI167.out)) | exact HB.out))) : w.heap.size ≤ gb177)); have n6_ := Aside0.mk ((by rw [hg]; exact Nat.ne_of_lt (IsS259.lt (show IsS259 w _ gb167 t175 t176 from by repeat (first | (with_reducible first | exact HI167.out | apply IsS259.alloc | apply IsS259.drewN | apply IsS259.drew | apply IsS259.set_0 | apply IsS259.set_1) | exact HI167.out))) : gb167 ≠ gb177)); have n7_ := Aside0.mk ((by rw [hg]; exact Nat.ne_of_gt (IsS259.lt (show IsS259 w _ gb167 t175 t176 from by repeat (first | (with_reducible first | exact HI167.out | apply IsS259.alloc | apply IsS259.drewN | apply IsS259.drew | apply IsS259.set_0 | apply IsS259.set_1) | exact HI167.out))) : gb177 ≠ gb167)); clear HO_5; clear HI167; clear HB; have HO_5 := n0_; have HI167 := n1_; have HB := n2_; have BK177 := n3_; have GW177 := n4_; have GE177 := n5_; have NB167_177 := n6_; have NB177_167 := n7_; clear n0_ n1_ n2_ n3_ n4_ n5_ n6_ n7_; clear hb hbox hg; have hnb13 := NB177_167.out; have hnc13 := NB167_177.out; have hcz14_0 : w12.cell? ⟨gb177, 0, none⟩ = some (.int .i64 0) := (blk_cell BK177.out 0).trans rfl; have hcz14_1 : w12.cell? ⟨gb177, 1, none⟩ = some (.int .i64 0) := (blk_cell BK177.out 1).trans rfl; have hfz14_0 := blk_frozen BK177.out 0; have hfz14_1 := blk_frozen BK177.out 1) | ((with_reducible refine gate_callee (f := 161) rfl ?_); refine goesL_ (some 25) rfl rfl Tryz.func161 (by kernel_rfl) rfl #[.pointer (some ⟨gb167, 0, none⟩), .int .i64 2] rfl (by (try simp only [List.map_toArray, List.map_cons, List.map_nil]); first | done | rfl | (simp only [List.length_drop, List.length_take]; rfl) | (simp only [ByteArray.size_append, Int.natCast_add]; rfl) | (simp [ByteArray.size_append, Int.add_assoc]; done)) ?_; (with_reducible refine (sheet_reader_num.calls k1 gb167 t175 t176 2 t178 t179 t180 w _ ?side1 ?side2 A9.out).mono ?_); (case side1 => repeat (first | (with_reducible first | exact HI167.out | apply IsS259.alloc | apply IsS259.drewN | apply IsS259.drew | apply IsS259.set_0 | apply IsS259.set_1 | refine IsS259.far ?_ NB167_177.out _) | exact HI167.out)); (case side2 => repeat (first | (with_reducible first | exact HB.out | apply below_alloc | apply pw_below_drewN | apply below_drew1 | refine below_set ?_ (IsS259.ge HI167.out) | refine below_set ?_ GE177.out) | exact HB.out)); rintro e w15 ⟨rfl, hi, hb, hk⟩; refine ⟨_, rfl, ?_⟩; have n0_ := Aside0.mk (Kd.R_mono (Kd.R_keep (IsS259.apart (show IsS259 w _ gb167 t175 t176 from by repeat (first | (with_reducible first | exact HI167.out | apply IsS259.alloc | apply IsS259.drewN | apply IsS259.drew | apply IsS259.set_0 | apply IsS259.set_1 | refine IsS259.far ?_ NB167_177.out _) | exact HI167.out)) (by (with_reducible repeat (first | apply Kd.R_alloc | apply Kd.R_drewN | apply Kd.R_drew)); exact (Kd.R_mono (Kd.R_far (p := ⟨gb177, 1, none⟩) (Kd.R_far (p := ⟨gb177, 0, none⟩) (Kd.R_mono HO_5.out (fun k_ hk => (⟨hk, hk.2⟩ : _ ∧ k_ ≠ gb177))) (fun _ hk => hk.2) (.int .i64 t174)) (fun _ hk => hk.2) (.int .i64 0)) (fun _ h_ => h_.1))) (by decide)) hk (fun _ h => h.2)) (fun _ h => h.1)); have n1_ := Aside0.mk (KeepBut.blk hk (g' := gb177) (o := .cells #[.int .i64 t174, .int .i64 0] 165 (0, 0)) (by (with_reducible repeat (first | refine blk_drewN ?_ _ | refine blk_drew ?_ | refine blk_alloc ?_ _)); refine blk_put (cs := #[.int .i64 t174, .int .i64 0]) ?_ 1 _ rfl; (with_reducible repeat (first | refine blk_drewN ?_ _ | refine blk_drew ?_ | refine blk_alloc ?_ _)); refine blk_put (cs := #[.int .i64 0, .int .i64 0]) ?_ 0 _ rfl; (with_reducible repeat (first | refine blk_drewN ?_ _ | refine blk_drew ?_ | refine blk_alloc ?_ _)); exact BK177.out) NB177_167.out (by simp)); have n2_ := Aside0.mk (hb); have n3_ := Aside0.mk (hi); clear HO_5; clear BK177; clear HB; clear HI167; have HO_5 := n0_; have BK177 := n1_; have HB := n2_; have HI167 := n3_; clear n0_ n1_ n2_ n3_; (try clear hb); (try clear hb2); (try clear hk); (try clear hi); have hcz16_0 : w15.cell? ⟨gb177, 0, none⟩ = some (.int .i64 t174) := (blk_cell BK177.out 0).trans rfl; have hcz16_1 : w15.cell? ⟨gb177, 1, none⟩ = some (.int .i64 0) := (blk_cell BK177.out 1).trans rfl; have hfz16_0 := blk_frozen BK177.out 0; have hfz16_1 := blk_frozen BK177.out 1) | ((with_reducible refine gate_builtin (b := .append) (xs := #[.tmp 27, .tmp 29]) rfl ?_); at_builtin; refine Kd.R_append k165 (w0 := w) w.heap.size rfl (.tmp 27) (.tmp 29) 161 165 (.agg #[(.int .i64 0), (.int .i64 0)]) 16 rfl Tryz.underlying161 info165 rfl (by decide) (by omega) u5 x5_1 (⟨t174, t178⟩ : S165) [.int .i64 t174, .int .i64 t178] (fun k_ => k_ ≠ gb177) (fun _ => False) rfl (by first | (go_simp; done) | (go_simp; rfl)) ?aP (fun _ hk => hk.elim) ?aF ?aO ?aB ?aS ?aL ?_; (case aP => exact k165_mkM _ _ _ (⟨t174, t178⟩ : S165)); (case aB => exact (by repeat (first | (with_reducible first | exact HB.out | apply below_alloc | apply pw_below_drewN | apply below_drew1 | refine below_set ?_ (IsS259.ge HI167.out) | refine below_set ?_ GE177.out) | exact HB.out))); (case aF => exact (fun k_ hk => Kd.freshB (g := gb177) (o := .cells #[.int .i64 t174, .int .i64 t178] 165 (0, 0)) (by (with_reducible repeat (first | refine blk_drewN ?_ _ | refine blk_drew ?_ | refine blk_alloc ?_ _)); refine blk_put (cs := #[.int .i64 t174, .int .i64 0]) ?_ 1 _ rfl; (with_reducible repeat (first | refine blk_drewN ?_ _ | refine blk_drew ?_ | refine blk_alloc ?_ _)); exact BK177.out) k_ hk)); (case aO => exact (by (with_reducible repeat (first | apply Kd.R_alloc | apply Kd.R_drewN | apply Kd.R_drew)); exact Kd.R_mono (Kd.R_far (p := ⟨gb177, 1, none⟩) (Kd.R_mono HO_5.out (fun k_ hk => (⟨hk, hk.2⟩ : _ ∧ k_ ≠ gb177))) (fun _ hk => hk.2) (.int .i64 t178)) (fun _ hk => hk.1.2))); (case aS => exact (below_size (by repeat (first | (with_reducible first | exact HB.out | apply below_alloc | apply pw_below_drewN | apply below_drew1 | refine below_set ?_ (IsS259.ge HI167.out) | refine below_set ?_ GE177.out) | exact HB.out)))); (case aL => have := LMc10.out; omega); intro v182 w17 ho hb hg hat; rw [← Ny181.out] at ho; have n0_ := Aside0.mk (IsS259.grown (show IsS259 w _ gb167 t179 t180 from by repeat (first | (with_reducible first | exact HI167.out | apply IsS259.alloc | apply IsS259.drewN | apply IsS259.drew | apply IsS259.set_0 | apply IsS259.set_1 | refine IsS259.far ?_ NB167_177.out _) | exact HI167.out)) hg (IsS259.own_ne HI167.out HO_5.out (by decide))); have n1_ := Aside0.mk (blk_grown (g := gb177) (o := .cells #[.int .i64 t174, .int .i64 t178] 165 (0, 0)) (by (with_reducible repeat (first | refine blk_drewN ?_ _ | refine blk_drew ?_ | refine blk_alloc ?_ _)); refine blk_put (cs := #[.int .i64 t174, .int .i64 0]) ?_ 1 _ rfl; (with_reducible repeat (first | refine blk_drewN ?_ _ | refine blk_drew ?_ | refine blk_alloc ?_ _)); exact BK177.out) hg (Kd.R_away HO_5.out (fun _ hk => hk.2))); have n2_ := Aside0.mk (hb); have n3_ := Aside0.mk (ho); clear HI167; clear BK177; clear HB; clear HO_5; have HI167 := n0_; have BK177 := n1_; have HB := n2_; have HO183 := n3_; clear n0_ n1_ n2_ n3_; clear ho hb hg hat))
          go_roundg k1
          case measure => have := HK1.out; omega
          case rel => exact ⟨(y181), (wrap64 (x6_1 - 1)), (t179), (t180), (by first | rfl | (simp; done) | (simp [*]; done)), H', ⟨by have := HK1.out; omega⟩, ⟨by (with_reducible repeat (first | apply Kd.R_alloc | apply Kd.R_drewN | apply Kd.R_drew)); exact Kd.R_mono HO183.out (fun _ hk => trivial)⟩, ⟨by repeat (first | (with_reducible first | exact HI167.out | apply IsS259.alloc | apply IsS259.drewN | apply IsS259.drew | apply IsS259.set_0 | apply IsS259.set_1 | refine IsS259.far ?_ NB167_177.out _) | exact HI167.out)⟩, ⟨by repeat (first | (with_reducible first | exact HB.out | apply below_alloc | apply pw_below_drewN | apply below_drew1 | refine below_set ?_ (IsS259.ge HI167.out) | refine below_set ?_ GE177.out) | exact HB.out)⟩⟩
        · rw [if_neg c10] at H
          exact absurd H (by simp)
      · rw [if_neg c7] at H
        have c7b0 : decide (0 < x6_1) = false := decide_eq_false c7
        clear c7
        replace H := Option.bind_eq_some_iff.mp H
        obtain ⟨⟨t184, t185⟩, A180, H⟩ := H
        replace H : (if x168001_1 = true then (sheet_Slots.j1 k1 x5_1 true) else (if t185 = true then (sheet_Slots.j1 k1 x5_1 (t184.toList != a0.toList)) else (sheet_Slots.j1 k1 x5_1 true))) = some (r1, r2) := H
        have A18 := Aside0.mk A180
        clear A180
        have HC19 := Aside0.mk H
        clear H
        obtain ⟨Ao20, co20, eo20⟩ := Kd.R_slice HO_5.out
        subst eo20
        go_upto_region 11 with (first | ((with_reducible refine gate_callee (f := 99) rfl ?_); refine goesL_ (some 33) rfl rfl Tryz.func99 (by kernel_rfl) rfl #[.slice Ao20 x5_1.length co20] rfl (by (try simp only [List.map_toArray, List.map_cons, List.map_nil]); first | done | rfl | (simp only [List.length_drop, List.length_take]; rfl) | (simp only [ByteArray.size_append, Int.natCast_add]; rfl) | (simp [ByteArray.size_append, Int.add_assoc]; done)) ?_; (with_reducible refine (sheet_Index.calls _ _ x5_1 t184 t185 _ ?side1 ?side2 A18.out).mono ?_); (case side1 => repeat (first | exact (Kd.R_reads' HO_5.out).2.2 | (with_reducible refine Kd.C_alloc ?_ _) | (with_reducible refine Kd.C_drewN ?_ _) | (with_reducible refine Kd.C_drew ?_))); (case side2 => exact (Kd.R_reads' HO_5.out).2.1); rintro e w21 ⟨rfl, hb⟩; refine ⟨_, rfl, ?_⟩; have n0_ := Aside0.mk (Kd.R_below (by (with_reducible repeat (first | apply Kd.R_alloc | apply Kd.R_drewN | apply Kd.R_drew)); exact HO_5.out) hb); have n1_ := Aside0.mk (IsS259.below (by repeat (first | (with_reducible first | exact HI167.out | apply IsS259.alloc | apply IsS259.drewN | apply IsS259.drew | apply IsS259.set_0 | apply IsS259.set_1) | exact HI167.out)) hb); have n2_ := Aside0.mk (below_step (by repeat (first | (with_reducible first | exact HB.out | apply below_alloc | apply pw_below_drewN | apply below_drew1 | refine below_set ?_ (IsS259.ge HI167.out)) | exact HB.out)) hb); clear HO_5; clear HI167; clear HB; have HO_5 := n0_; have HI167 := n1_; have HB := n2_; clear n0_ n1_ n2_; (try clear hb); (try clear hb2); (try clear hk); (try clear hi)))
        (try simp only [Act.put, List.setIfInBounds_toArray, List.set_cons_zero, List.set_cons_succ])
        go_cut [48] (fun v48 wc => ∃ (kq : Nat) (x48_18 : Bool), v48 = .bool x48_18 ∧ Aside0 (sheet_Slots.j1 kq x5_1 x48_18 = some (r1, r2)) ∧ Aside0 (kq ≤ k1) ∧ Aside0 (Kd.R k165 165 wc w.heap.size (fun _ => True) (.slice Ao20 x5_1.length co20) x5_1) ∧ Aside0 (Below w.heap.size w wc))
        case first =>
          have H := HC19.out
          clear HC19
          by_cases c22 : x168001_1 = true
          · subst c22
            have H1 : (sheet_Slots.j1 k1 x5_1 true) = some (r1, r2) := by rw [if_pos rfl] at H; exact H
            clear H
            have H := H1
            clear H1
            have H' := Aside0.mk H
            clear H
            obtain ⟨HGz23, hgz23⟩ := HI167.out
            have hcz23_0 := cellS259_0 HGz23
            have hcz23_1 := cellS259_1 HGz23
            have hfz23_0 := blk_frozen HGz23 0
            have hfz23_1 := blk_frozen HGz23 1
            clear HGz23 hgz23
            go_wp2
            go_meet
            case rel => exact ⟨_, (true), (by first | rfl | (simp; done) | (simp [*]; done)), H', ⟨by have := HK1.out; first | omega | exact Nat.le_refl _⟩, ⟨by (with_reducible repeat (first | apply Kd.R_alloc | apply Kd.R_drewN | apply Kd.R_drew)); exact HO_5.out⟩, ⟨by repeat (first | (with_reducible first | exact HB.out | apply below_alloc | apply pw_below_drewN | apply below_drew1 | refine below_set ?_ (IsS259.ge HI167.out)) | exact HB.out)⟩⟩
          · replace c22 := Bool.eq_false_iff.mpr c22
            subst c22
            have H1 : (if t185 = true then (sheet_Slots.j1 k1 x5_1 (t184.toList != a0.toList)) else (sheet_Slots.j1 k1 x5_1 true)) = some (r1, r2) := by rw [if_neg (show ¬ (false = true) by decide)] at H; exact H
            clear H
            have H := H1
            clear H1
            by_cases c24 : t185 = true
            · subst c24
              have H1 : (sheet_Slots.j1 k1 x5_1 (t184.toList != a0.toList)) = some (r1, r2) := by rw [if_pos rfl] at H; exact H
              clear H
              have H := H1
              clear H1
              have H' := Aside0.mk H
              clear H
              obtain ⟨HGz25, hgz25⟩ := HI167.out
              have hcz25_0 := cellS259_0 HGz25
              have hcz25_1 := cellS259_1 HGz25
              have hfz25_0 := blk_frozen HGz25 0
              have hfz25_1 := blk_frozen HGz25 1
              clear HGz25 hgz25
              go_wp2
              go_meet
              case rel => exact ⟨_, ((t184.toList != a0.toList)), (by first | rfl | (simp; done) | (simp [*]; done)), H', ⟨by have := HK1.out; first | omega | exact Nat.le_refl _⟩, ⟨by (with_reducible repeat (first | apply Kd.R_alloc | apply Kd.R_drewN | apply Kd.R_drew)); exact HO_5.out⟩, ⟨by repeat (first | (with_reducible first | exact HB.out | apply below_alloc | apply pw_below_drewN | apply below_drew1 | refine below_set ?_ (IsS259.ge HI167.out)) | exact HB.out)⟩⟩
            · replace c24 := Bool.eq_false_iff.mpr c24
              subst c24
              have H1 : (sheet_Slots.j1 k1 x5_1 true) = some (r1, r2) := by rw [if_neg (show ¬ (false = true) by decide)] at H; exact H
              clear H
              have H := H1
              clear H1
              have H' := Aside0.mk H
              clear H
              obtain ⟨HGz26, hgz26⟩ := HI167.out
              have hcz26_0 := cellS259_0 HGz26
              have hcz26_1 := cellS259_1 HGz26
              have hfz26_0 := blk_frozen HGz26 0
              have hfz26_1 := blk_frozen HGz26 1
              clear HGz26 hgz26
              go_wp2
              go_meet
              case rel => exact ⟨_, (true), (by first | rfl | (simp; done) | (simp [*]; done)), H', ⟨by have := HK1.out; first | omega | exact Nat.le_refl _⟩, ⟨by (with_reducible repeat (first | apply Kd.R_alloc | apply Kd.R_drewN | apply Kd.R_drew)); exact HO_5.out⟩, ⟨by repeat (first | (with_reducible first | exact HB.out | apply below_alloc | apply pw_below_drewN | apply below_drew1 | refine below_set ?_ (IsS259.ge HI167.out)) | exact HB.out)⟩⟩
        case rest =>
          clear HC19
          try clear c1
          try clear c2
          try clear p2
          try clear p6
          try clear c7
          try clear c7b0
          try clear c9
          try clear c10
          try clear c13
          try clear c16
          try clear c22
          try clear c24
          try clear hcz14_0
          try clear hcz14_1
          try clear hcz16_0
          try clear hcz16_1
          try clear hcz23_0
          try clear hcz23_1
          try clear hcz25_0
          try clear hcz25_1
          try clear hcz26_0
          try clear hcz26_1
          try clear hfz14_0
          try clear hfz14_1
          try clear hfz16_0
          try clear hfz16_1
          try clear hfz23_0
          try clear hfz23_1
          try clear hfz25_0
          try clear hfz25_1
          try clear hfz26_0
          try clear hfz26_1
          try clear p2
          obtain ⟨kq, x48_18, rfl, HA, HJ18, HO_5, HB⟩ := hcut
          cases kq with
          | zero => exact absurd HA.out (by simp [sheet_Slots.j1])
          | succ kj18 =>
            have H := HA.out
            clear HA
            simp only [sheet_Slots.j1] at H
            by_cases c27 : x48_18 = true
            · subst c27
              have H1 : (some (([] : List (S165)), false)) = some (r1, r2) := by rw [if_pos rfl] at H; exact H
              clear H
              have H := H1
              clear H1
              simp only [Option.some.injEq, Prod.mk.injEq] at H
              obtain ⟨rfl, rfl⟩ := H
              go_wp2
              go_ret2
              exact ⟨_, by first | rfl | (simp [errW_none, errW_some] <;> rfl) | (simp [*, errW_none, errW_some] <;> rfl), by first | exact Kd.R_nil _ _ _ _ _ | exact Kd.N_nil _ _ _ _ _ | exact Kd.V_nil _ _ _ _ _ | exact Kd.Q_nil _ _ _ _ _ | exact Kd.S_nil _ _ _ _ _, by repeat (first | (with_reducible first | exact HB.out | apply below_alloc | apply pw_below_drewN | apply below_drew1) | exact HB.out)⟩
            · replace c27 := Bool.eq_false_iff.mpr c27
              subst c27
              have H1 : (some (x5_1, true)) = some (r1, r2) := by rw [if_neg (show ¬ (false = true) by decide)] at H; exact H
              clear H
              have H := H1
              clear H1
              simp only [Option.some.injEq, Prod.mk.injEq] at H
              obtain ⟨rfl, rfl⟩ := H
              go_wp2
              go_ret2
              exact ⟨_, by first | rfl | (simp [errW_none, errW_some] <;> rfl) | (simp [*, errW_none, errW_some] <;> rfl), by (with_reducible repeat (first | apply Kd.R_alloc | apply Kd.R_drewN | apply Kd.R_drew)); exact HO_5.out, by repeat (first | (with_reducible first | exact HB.out | apply below_alloc | apply pw_below_drewN | apply below_drew1) | exact HB.out)⟩
mutual
def sheet_Cells.l0 : Nat → ByteArray → List (S151) → Int → ByteArray → Bool → Option ((List (S151)) × Bool)
  | 0, _, _, _, _, _ => none
  | k + 1, x0, x5, x6, x187000, x187001 => if x6 > 0 then ((sheet_reader_num.f k x187000 x187001 4).bind fun bt193 => ((sheet_reader_num.f k bt193.2.1 bt193.2.2 2).bind fun bt197 => (if bt197.1 ≤ 24 then ((sheet_reader_take.f bt197.2.1 bt197.2.2 bt197.1).bind fun bt200 => (sheet_Cells.j1 k x0 x5 x6 bt200.2.1 bt200.2.2 bt193.1 bt197.1 0 bt200.1)) else ((sheet_reader_num.f k bt197.2.1 bt197.2.2 2).bind fun bt203 => (sheet_Cells.j1 k x0 x5 x6 bt203.2.1 bt203.2.2 bt193.1 bt197.1 bt203.1 (⟨#[]⟩ : ByteArray)))))) else ((sheet_Leaf.f x5).bind fun bt209 => (if x187001 = true then (sheet_Cells.j2 k x5 true) else (if bt209.2 = true then (sheet_Cells.j2 k x5 (bt209.1.toList != x0.toList)) else (sheet_Cells.j2 k x5 true))))
def sheet_Cells.j1 : Nat → ByteArray → List (S151) → Int → ByteArray → Bool → Int → Int → Int → ByteArray → Option ((List (S151)) × Bool)
  | 0, _, _, _, _, _, _, _, _, _ => none
  | k + 1, x0, x5, x6, x187000, x187001, x197000, x197001, x197002, x197003 => if x5.length < 3518437208883 then (sheet_Cells.l0 k x0 (x5 ++ [(⟨x197000, x197001, x197002, x197003⟩ : S151)]) (wrap64 (x6 - 1)) x187000 x187001) else (none)
def sheet_Cells.j2 : Nat → List (S151) → Bool → Option ((List (S151)) × Bool)
  | 0, _, _ => none
  | k + 1, x5, x59 => if x59 = true then (some (([] : List (S151)), false)) else (some (x5, true))
end
def sheet_Cells.f (k : Nat) (a0 : ByteArray) : Option ((List (S151)) × Bool) := (sheet_reader_take.f a0 false 1).bind fun bt187 => ((sheet_reader_num.f k bt187.2.1 bt187.2.2 1).bind fun bt190 => (sheet_Cells.l0 k a0 ([] : List (S151)) bt190.1 bt190.2.1 bt190.2.2))
set_option maxHeartbeats 8000000 in
set_option maxRecDepth 100000 in
theorem sheet_Cells.calls (k : Nat) (a0 : ByteArray) (r1 : List (S151)) (r2 : Bool) (w : World) (h : sheet_Cells.f k a0 = some (r1, r2)) :
    Calls Tryz.prog 162 #[.string a0] w fun e w' => ∃ v0_ : Value, e = .returned (.tuple #[v0_, .bool r2]) ∧ Kd.R k151 151 w' w.heap.size (fun _ => True) v0_ r1 ∧ Below w.heap.size w w' := by
  have hu259 := Tryz.underlying259
  have hu151 := Tryz.underlying151
  have HB := Aside0.mk (Below.refl w.heap.size w)
  have H : ((sheet_reader_take.f a0 false 1).bind fun bt187 => ((sheet_reader_num.f k bt187.2.1 bt187.2.2 1).bind fun bt190 => (sheet_Cells.l0 k a0 ([] : List (S151)) bt190.1 bt190.2.1 bt190.2.2))) = some (r1, r2) := h
  clear h
  replace H := Option.bind_eq_some_iff.mp H
  obtain ⟨⟨t187, t188, t189⟩, A20, H⟩ := H
  replace H : ((sheet_reader_num.f k t188 t189 1).bind fun bt190 => (sheet_Cells.l0 k a0 ([] : List (S151)) bt190.1 bt190.2.1 bt190.2.2)) = some (r1, r2) := H
  have A2 := Aside0.mk A20
  clear A20
  replace H := Option.bind_eq_some_iff.mp H
  obtain ⟨⟨t190, t191, t192⟩, A30, H⟩ := H
  replace H : (sheet_Cells.l0 k a0 ([] : List (S151)) t190 t191 t192) = some (r1, r2) := H
  have A3 := Aside0.mk A30
  clear A30
  have H' := Aside0.mk H
  clear H
  go_enter Tryz.func162, Tryz.ntmps162
  go_wp2_with (first | ((with_reducible refine gate_dst (N := 12) rfl ?_); refine box_event ?hg (N := 12) ?hd (cs := #[.string a0, .bool false]) (t := 259) ?hr ?_; (case hd => rfl); (case hg => rfl); (case hr => first | (go_simp; done) | (go_simp; rfl)); intro gb186 hg w4 hbox hb; have n0_ := Aside0.mk (below_step (by repeat (first | (with_reducible first | exact HB.out | apply below_alloc | apply pw_below_drewN | apply below_drew1) | exact HB.out)) hb); have n1_ := Aside0.mk ((show IsS259 w w4 gb186 a0 false from ⟨hbox, (by rw [hg]; exact (below_size (by repeat (first | (with_reducible first | exact HB.out | apply below_alloc | apply pw_below_drewN | apply below_drew1) | exact HB.out))) : w.heap.size ≤ gb186)⟩)); have n2_ := Aside0.mk ((by rw [hg]; exact (below_size (by repeat (first | (with_reducible first | exact HB.out | apply below_alloc | apply pw_below_drewN | apply below_drew1) | exact HB.out))) : w.heap.size ≤ gb186)); have n3_ := Aside0.mk ((by rw [hg]; exact (below_size (by repeat (first | (with_reducible first | exact HB.out | apply below_alloc | apply pw_below_drewN | apply below_drew1) | exact HB.out))) : w.heap.size ≤ gb186)); clear HB; have HB := n0_; have HI186 := n1_; have GW186 := n2_; have GE186 := n3_; clear n0_ n1_ n2_ n3_; clear hb hbox hg) | ((with_reducible refine gate_callee (f := 160) rfl ?_); refine goesL_ (some 14) rfl rfl Tryz.func160 (by kernel_rfl) rfl #[.pointer (some ⟨gb186, 0, none⟩), .int .i64 1] rfl (by (try simp only [List.map_toArray, List.map_cons, List.map_nil]); first | done | rfl | (simp only [List.length_drop, List.length_take]; rfl) | (simp only [ByteArray.size_append, Int.natCast_add]; rfl) | (simp [ByteArray.size_append, Int.add_assoc]; done)) ?_; (with_reducible refine (sheet_reader_take.calls gb186 a0 false 1 t187 t188 t189 w _ ?side1 ?side2 A2.out).mono ?_); (case side1 => repeat (first | (with_reducible first | exact HI186.out | apply IsS259.alloc | apply IsS259.drewN | apply IsS259.drew | apply IsS259.set_0 | apply IsS259.set_1) | exact HI186.out)); (case side2 => repeat (first | (with_reducible first | exact HB.out | apply below_alloc | apply pw_below_drewN | apply below_drew1 | refine below_set ?_ (IsS259.ge HI186.out)) | exact HB.out)); rintro e w5 ⟨rfl, hi, hb, hk⟩; refine ⟨_, rfl, ?_⟩; have n0_ := Aside0.mk (hb); have n1_ := Aside0.mk (hi); clear HB; clear HI186; have HB := n0_; have HI186 := n1_; clear n0_ n1_; (try clear hb); (try clear hb2); (try clear hk); (try clear hi)) | ((with_reducible refine gate_callee (f := 161) rfl ?_); refine goesL_ (some 16) rfl rfl Tryz.func161 (by kernel_rfl) rfl #[.pointer (some ⟨gb186, 0, none⟩), .int .i64 1] rfl (by (try simp only [List.map_toArray, List.map_cons, List.map_nil]); first | done | rfl | (simp only [List.length_drop, List.length_take]; rfl) | (simp only [ByteArray.size_append, Int.natCast_add]; rfl) | (simp [ByteArray.size_append, Int.add_assoc]; done)) ?_; (with_reducible refine (sheet_reader_num.calls k gb186 t188 t189 1 t190 t191 t192 w _ ?side1 ?side2 A3.out).mono ?_); (case side1 => repeat (first | (with_reducible first | exact HI186.out | apply IsS259.alloc | apply IsS259.drewN | apply IsS259.drew | apply IsS259.set_0 | apply IsS259.set_1) | exact HI186.out)); (case side2 => repeat (first | (with_reducible first | exact HB.out | apply below_alloc | apply pw_below_drewN | apply below_drew1 | refine below_set ?_ (IsS259.ge HI186.out)) | exact HB.out)); rintro e w6 ⟨rfl, hi, hb, hk⟩; refine ⟨_, rfl, ?_⟩; have n0_ := Aside0.mk (hb); have n1_ := Aside0.mk (hi); clear HB; clear HI186; have HB := n0_; have HI186 := n1_; clear n0_ n1_; (try clear hb); (try clear hb2); (try clear hk); (try clear hi)))
  go_loopg [5, 6] k (fun kq v5 v6 w' => ∃ (x5_1 : List (S151)) (x6_1 : Int) (x187000_1 : ByteArray) (x187001_1 : Bool), v6 = .int .i64 x6_1 ∧ Aside0 (sheet_Cells.l0 kq a0 x5_1 x6_1 x187000_1 x187001_1 = some (r1, r2)) ∧ Aside0 (kq ≤ k) ∧ Aside0 (Kd.R k151 151 w' w.heap.size (fun _ => True) v5 x5_1) ∧ Aside0 (IsS259 w w' gb186 x187000_1 x187001_1) ∧ Aside0 (Below w.heap.size w w'))
  case atStart => exact ⟨(([] : List (S151))), (t190), (t191), (t192), (by first | rfl | (simp; done) | (simp [*]; done)), H', ⟨Nat.le_refl _⟩, ⟨by first | exact Kd.R_nil _ _ _ _ _ | exact Kd.N_nil _ _ _ _ _ | exact Kd.V_nil _ _ _ _ _ | exact Kd.Q_nil _ _ _ _ _ | exact Kd.S_nil _ _ _ _ _⟩, ⟨by repeat (first | (with_reducible first | exact HI186.out | apply IsS259.alloc | apply IsS259.drewN | apply IsS259.drew | apply IsS259.set_0 | apply IsS259.set_1) | exact HI186.out)⟩, ⟨by repeat (first | (with_reducible first | exact HB.out | apply below_alloc | apply pw_below_drewN | apply below_drew1 | refine below_set ?_ (IsS259.ge HI186.out)) | exact HB.out)⟩⟩
  case round =>
    clear H'
    try clear c1
    try clear p2
    obtain ⟨x5_1, x6_1, x187000_1, x187001_1, rfl, HA, HK1, HO_5, HI186, HB⟩ := hrel
    cases gk with
    | zero => exact absurd HA.out (by simp [sheet_Cells.l0])
    | succ k1 =>
      have H := HA.out
      clear HA
      simp only [sheet_Cells.l0] at H
      by_cases c7 : x6_1 > 0
      · rw [if_pos c7] at H
        have c7b0 : decide (0 < x6_1) = true := decide_eq_true c7
        clear c7
        replace H := Option.bind_eq_some_iff.mp H
        obtain ⟨⟨t193, t194, t195⟩, A80, H⟩ := H
        replace H : ((sheet_reader_num.f k1 t194 t195 2).bind fun bt197 => (if bt197.1 ≤ 24 then ((sheet_reader_take.f bt197.2.1 bt197.2.2 bt197.1).bind fun bt200 => (sheet_Cells.j1 k1 a0 x5_1 x6_1 bt200.2.1 bt200.2.2 t193 bt197.1 0 bt200.1)) else ((sheet_reader_num.f k1 bt197.2.1 bt197.2.2 2).bind fun bt203 => (sheet_Cells.j1 k1 a0 x5_1 x6_1 bt203.2.1 bt203.2.2 t193 bt197.1 bt203.1 (⟨#[]⟩ : ByteArray))))) = some (r1, r2) := H
        have A8 := Aside0.mk A80
        clear A80
        replace H := Option.bind_eq_some_iff.mp H
        obtain ⟨⟨t197, t198, t199⟩, A90, H⟩ := H
        replace H : (if t197 ≤ 24 then ((sheet_reader_take.f t198 t199 t197).bind fun bt200 => (sheet_Cells.j1 k1 a0 x5_1 x6_1 bt200.2.1 bt200.2.2 t193 t197 0 bt200.1)) else ((sheet_reader_num.f k1 t198 t199 2).bind fun bt203 => (sheet_Cells.j1 k1 a0 x5_1 x6_1 bt203.2.1 bt203.2.2 t193 t197 bt203.1 (⟨#[]⟩ : ByteArray)))) = some (r1, r2) := H
        have A9 := Aside0.mk A90
        clear A90
        have HC10 := Aside0.mk H
        clear H
        go_upto_if 29 with (first | ((with_reducible refine gate_callee (f := 161) rfl ?_); refine goesL_ (some 22) rfl rfl Tryz.func161 (by kernel_rfl) rfl #[.pointer (some ⟨gb186, 0, none⟩), .int .i64 4] rfl (by (try simp only [List.map_toArray, List.map_cons, List.map_nil]); first | done | rfl | (simp only [List.length_drop, List.length_take]; rfl) | (simp only [ByteArray.size_append, Int.natCast_add]; rfl) | (simp [ByteArray.size_append, Int.add_assoc]; done)) ?_; (with_reducible refine (sheet_reader_num.calls k1 gb186 x187000_1 x187001_1 4 t193 t194 t195 w _ ?side1 ?side2 A8.out).mono ?_); (case side1 => repeat (first | (with_reducible first | exact HI186.out | apply IsS259.alloc | apply IsS259.drewN | apply IsS259.drew | apply IsS259.set_0 | apply IsS259.set_1) | exact HI186.out)); (case side2 => repeat (first | (with_reducible first | exact HB.out | apply below_alloc | apply pw_below_drewN | apply below_drew1 | refine below_set ?_ (IsS259.ge HI186.out)) | exact HB.out)); rintro e w11 ⟨rfl, hi, hb, hk⟩; refine ⟨_, rfl, ?_⟩; have n0_ := Aside0.mk (Kd.R_mono (Kd.R_keep (IsS259.apart (show IsS259 w _ gb186 x187000_1 x187001_1 from by repeat (first | (with_reducible first | exact HI186.out | apply IsS259.alloc | apply IsS259.drewN | apply IsS259.drew | apply IsS259.set_0 | apply IsS259.set_1) | exact HI186.out)) (by (with_reducible repeat (first | apply Kd.R_alloc | apply Kd.R_drewN | apply Kd.R_drew)); exact HO_5.out) (by decide)) hk (fun _ h => h.2)) (fun _ h => h.1)); have n1_ := Aside0.mk (hb); have n2_ := Aside0.mk (hi); clear HO_5; clear HB; clear HI186; have HO_5 := n0_; have HB := n1_; have HI186 := n2_; clear n0_ n1_ n2_; (try clear hb); (try clear hb2); (try clear hk); (try clear hi)) | ((with_reducible refine gate_dst (N := 7) rfl ?_); refine box_event ?hg (N := 7) ?hd (cs := #[.int .i64 0, .int .i64 0, .int .i64 0, .string (⟨#[]⟩ : ByteArray)]) (t := 151) ?hr ?_; (case hd => rfl); (case hg => rfl); (case hr => first | (go_simp; done) | (go_simp; rfl)); intro gb196 hg w12 hbox hb; have n0_ := Aside0.mk (Kd.R_below (Kd.R_elderB (by (with_reducible repeat (first | apply Kd.R_alloc | apply Kd.R_drewN | apply Kd.R_drew)); exact HO_5.out) gb196 (Nat.le_of_eq hg.symm)) hb); have n1_ := Aside0.mk (IsS259.below (by repeat (first | (with_reducible first | exact HI186.out | apply IsS259.alloc | apply IsS259.drewN | apply IsS259.drew | apply IsS259.set_0 | apply IsS259.set_1) | exact HI186.out)) hb); have n2_ := Aside0.mk (below_step (by repeat (first | (with_reducible first | exact HB.out | apply below_alloc | apply pw_below_drewN | apply below_drew1 | refine below_set ?_ (IsS259.ge HI186.out)) | exact HB.out)) hb); have n3_ := Aside0.mk (hbox); have n4_ := Aside0.mk ((by rw [hg]; exact (below_size (by repeat (first | (with_reducible first | exact HB.out | apply below_alloc | apply pw_below_drewN | apply below_drew1 | refine below_set ?_ (IsS259.ge HI186.out)) | exact HB.out))) : w.heap.size ≤ gb196)); have n5_ := Aside0.mk ((by rw [hg]; exact (below_size (by repeat (first | (with_reducible first | exact HB.out | apply below_alloc | apply pw_below_drewN | apply below_drew1 | refine below_set ?_ (IsS259.ge HI186.out)) | exact HB.out))) : w.heap.size ≤ gb196)); have n6_ := Aside0.mk ((by rw [hg]; exact Nat.ne_of_lt (IsS259.lt (show IsS259 w _ gb186 t194 t195 from by repeat (first | (with_reducible first | exact HI186.out | apply IsS259.alloc | apply IsS259.drewN | apply IsS259.drew | apply IsS259.set_0 | apply IsS259.set_1) | exact HI186.out))) : gb186 ≠ gb196)); have n7_ := Aside0.mk ((by rw [hg]; exact Nat.ne_of_gt (IsS259.lt (show IsS259 w _ gb186 t194 t195 from by repeat (first | (with_reducible first | exact HI186.out | apply IsS259.alloc | apply IsS259.drewN | apply IsS259.drew | apply IsS259.set_0 | apply IsS259.set_1) | exact HI186.out))) : gb196 ≠ gb186)); clear HO_5; clear HI186; clear HB; have HO_5 := n0_; have HI186 := n1_; have HB := n2_; have BK196 := n3_; have GW196 := n4_; have GE196 := n5_; have NB186_196 := n6_; have NB196_186 := n7_; clear n0_ n1_ n2_ n3_ n4_ n5_ n6_ n7_; clear hb hbox hg; have hnb13 := NB196_186.out; have hnc13 := NB186_196.out; have hcz14_0 : w12.cell? ⟨gb196, 0, none⟩ = some (.int .i64 0) := (blk_cell BK196.out 0).trans rfl; have hcz14_1 : w12.cell? ⟨gb196, 1, none⟩ = some (.int .i64 0) := (blk_cell BK196.out 1).trans rfl; have hcz14_2 : w12.cell? ⟨gb196, 2, none⟩ = some (.int .i64 0) := (blk_cell BK196.out 2).trans rfl; have hcz14_3 : w12.cell? ⟨gb196, 3, none⟩ = some (.string (⟨#[]⟩ : ByteArray)) := (blk_cell BK196.out 3).trans rfl; have hfz14_0 := blk_frozen BK196.out 0; have hfz14_1 := blk_frozen BK196.out 1; have hfz14_2 := blk_frozen BK196.out 2; have hfz14_3 := blk_frozen BK196.out 3) | ((with_reducible refine gate_callee (f := 161) rfl ?_); refine goesL_ (some 25) rfl rfl Tryz.func161 (by kernel_rfl) rfl #[.pointer (some ⟨gb186, 0, none⟩), .int .i64 2] rfl (by (try simp only [List.map_toArray, List.map_cons, List.map_nil]); first | done | rfl | (simp only [List.length_drop, List.length_take]; rfl) | (simp only [ByteArray.size_append, Int.natCast_add]; rfl) | (simp [ByteArray.size_append, Int.add_assoc]; done)) ?_; (with_reducible refine (sheet_reader_num.calls k1 gb186 t194 t195 2 t197 t198 t199 w _ ?side1 ?side2 A9.out).mono ?_); (case side1 => repeat (first | (with_reducible first | exact HI186.out | apply IsS259.alloc | apply IsS259.drewN | apply IsS259.drew | apply IsS259.set_0 | apply IsS259.set_1 | refine IsS259.far ?_ NB186_196.out _) | exact HI186.out)); (case side2 => repeat (first | (with_reducible first | exact HB.out | apply below_alloc | apply pw_below_drewN | apply below_drew1 | refine below_set ?_ (IsS259.ge HI186.out) | refine below_set ?_ GE196.out) | exact HB.out)); rintro e w15 ⟨rfl, hi, hb, hk⟩; refine ⟨_, rfl, ?_⟩; have n0_ := Aside0.mk (Kd.R_mono (Kd.R_keep (IsS259.apart (show IsS259 w _ gb186 t194 t195 from by repeat (first | (with_reducible first | exact HI186.out | apply IsS259.alloc | apply IsS259.drewN | apply IsS259.drew | apply IsS259.set_0 | apply IsS259.set_1 | refine IsS259.far ?_ NB186_196.out _) | exact HI186.out)) (by (with_reducible repeat (first | apply Kd.R_alloc | apply Kd.R_drewN | apply Kd.R_drew)); exact (Kd.R_mono (Kd.R_far (p := ⟨gb196, 3, none⟩) (Kd.R_far (p := ⟨gb196, 2, none⟩) (Kd.R_far (p := ⟨gb196, 1, none⟩) (Kd.R_far (p := ⟨gb196, 0, none⟩) (Kd.R_mono HO_5.out (fun k_ hk => (⟨hk, hk.2⟩ : _ ∧ k_ ≠ gb196))) (fun _ hk => hk.2) (.int .i64 t193)) (fun _ hk => hk.2) (.int .i64 0)) (fun _ hk => hk.2) (.int .i64 0)) (fun _ hk => hk.2) (.string (⟨#[]⟩ : ByteArray))) (fun _ h_ => h_.1))) (by decide)) hk (fun _ h => h.2)) (fun _ h => h.1)); have n1_ := Aside0.mk (KeepBut.blk hk (g' := gb196) (o := .cells #[.int .i64 t193, .int .i64 0, .int .i64 0, .string (⟨#[]⟩ : ByteArray)] 151 (0, 0)) (by (with_reducible repeat (first | refine blk_drewN ?_ _ | refine blk_drew ?_ | refine blk_alloc ?_ _)); refine blk_put (cs := #[.int .i64 t193, .int .i64 0, .int .i64 0, .string (⟨#[]⟩ : ByteArray)]) ?_ 3 _ rfl; (with_reducible repeat (first | refine blk_drewN ?_ _ | refine blk_drew ?_ | refine blk_alloc ?_ _)); refine blk_put (cs := #[.int .i64 t193, .int .i64 0, .int .i64 0, .string (⟨#[]⟩ : ByteArray)]) ?_ 2 _ rfl; (with_reducible repeat (first | refine blk_drewN ?_ _ | refine blk_drew ?_ | refine blk_alloc ?_ _)); refine blk_put (cs := #[.int .i64 t193, .int .i64 0, .int .i64 0, .string (⟨#[]⟩ : ByteArray)]) ?_ 1 _ rfl; (with_reducible repeat (first | refine blk_drewN ?_ _ | refine blk_drew ?_ | refine blk_alloc ?_ _)); refine blk_put (cs := #[.int .i64 0, .int .i64 0, .int .i64 0, .string (⟨#[]⟩ : ByteArray)]) ?_ 0 _ rfl; (with_reducible repeat (first | refine blk_drewN ?_ _ | refine blk_drew ?_ | refine blk_alloc ?_ _)); exact BK196.out) NB196_186.out (by simp)); have n2_ := Aside0.mk (hb); have n3_ := Aside0.mk (hi); clear HO_5; clear BK196; clear HB; clear HI186; have HO_5 := n0_; have BK196 := n1_; have HB := n2_; have HI186 := n3_; clear n0_ n1_ n2_ n3_; (try clear hb); (try clear hb2); (try clear hk); (try clear hi); have hcz16_0 : w15.cell? ⟨gb196, 0, none⟩ = some (.int .i64 t193) := (blk_cell BK196.out 0).trans rfl; have hcz16_1 : w15.cell? ⟨gb196, 1, none⟩ = some (.int .i64 0) := (blk_cell BK196.out 1).trans rfl; have hcz16_2 : w15.cell? ⟨gb196, 2, none⟩ = some (.int .i64 0) := (blk_cell BK196.out 2).trans rfl; have hcz16_3 : w15.cell? ⟨gb196, 3, none⟩ = some (.string (⟨#[]⟩ : ByteArray)) := (blk_cell BK196.out 3).trans rfl; have hfz16_0 := blk_frozen BK196.out 0; have hfz16_1 := blk_frozen BK196.out 1; have hfz16_2 := blk_frozen BK196.out 2; have hfz16_3 := blk_frozen BK196.out 3))
        (try simp only [Act.put, List.setIfInBounds_toArray, List.set_cons_zero, List.set_cons_succ])
        go_cut [] (fun wc => ∃ (kq : Nat) (x187000_9 : ByteArray) (x187001_9 : Bool) (x197002_9 : Int) (x197003_9 : ByteArray), Aside0 (sheet_Cells.j1 kq a0 x5_1 x6_1 x187000_9 x187001_9 t193 t197 x197002_9 x197003_9 = some (r1, r2)) ∧ Aside0 (kq ≤ k1) ∧ Aside0 (Kd.R k151 151 wc w.heap.size (fun k_ => k_ ≠ gb196) u5 x5_1) ∧ Aside0 (wc.heap[gb196]? = some (.cells #[.int .i64 t193, .int .i64 t197, .int .i64 x197002_9, .string x197003_9] 151 (0, 0))) ∧ Aside0 (IsS259 w wc gb186 x187000_9 x187001_9) ∧ Aside0 (Below w.heap.size w wc))
        case first =>
          have H := HC10.out
          clear HC10
          by_cases c17 : t197 ≤ 24
          · rw [if_pos c17] at H
            have c17b0 : decide (t197 ≤ 24) = true := decide_eq_true c17
            clear c17
            (first | rw [c17b0] | (simp only [i64_w, i32_w]; rw [c17b0]) | skip)
            replace H := Option.bind_eq_some_iff.mp H
            obtain ⟨⟨t200, t201, t202⟩, A180, H⟩ := H
            replace H : (sheet_Cells.j1 k1 a0 x5_1 x6_1 t201 t202 t193 t197 0 t200) = some (r1, r2) := H
            have A18 := Aside0.mk A180
            clear A180
            have H' := Aside0.mk H
            clear H
            have hnb19 := NB196_186.out
            have hnc19 := NB186_196.out
            have hcz20_0 : w15.cell? ⟨gb196, 0, none⟩ = some (.int .i64 t193) := (blk_cell BK196.out 0).trans rfl
            have hcz20_1 : w15.cell? ⟨gb196, 1, none⟩ = some (.int .i64 0) := (blk_cell BK196.out 1).trans rfl
            have hcz20_2 : w15.cell? ⟨gb196, 2, none⟩ = some (.int .i64 0) := (blk_cell BK196.out 2).trans rfl
            have hcz20_3 : w15.cell? ⟨gb196, 3, none⟩ = some (.string (⟨#[]⟩ : ByteArray)) := (blk_cell BK196.out 3).trans rfl
            have hfz20_0 := blk_frozen BK196.out 0
            have hfz20_1 := blk_frozen BK196.out 1
            have hfz20_2 := blk_frozen BK196.out 2
            have hfz20_3 := blk_frozen BK196.out 3
            go_wp2_with (first | ((with_reducible refine gate_callee (f := 160) rfl ?_); refine goesL_ (some 33) rfl rfl Tryz.func160 (by kernel_rfl) rfl #[.pointer (some ⟨gb186, 0, none⟩), .int .i64 t197] rfl (by (try simp only [List.map_toArray, List.map_cons, List.map_nil]); first | done | rfl | (simp only [List.length_drop, List.length_take]; rfl) | (simp only [ByteArray.size_append, Int.natCast_add]; rfl) | (simp [ByteArray.size_append, Int.add_assoc]; done)) ?_; (with_reducible refine (sheet_reader_take.calls gb186 t198 t199 t197 t200 t201 t202 w _ ?side1 ?side2 A18.out).mono ?_); (case side1 => repeat (first | (with_reducible first | exact HI186.out | apply IsS259.alloc | apply IsS259.drewN | apply IsS259.drew | apply IsS259.set_0 | apply IsS259.set_1 | refine IsS259.far ?_ NB186_196.out _) | exact HI186.out)); (case side2 => repeat (first | (with_reducible first | exact HB.out | apply below_alloc | apply pw_below_drewN | apply below_drew1 | refine below_set ?_ (IsS259.ge HI186.out) | refine below_set ?_ GE196.out) | exact HB.out)); rintro e w21 ⟨rfl, hi, hb, hk⟩; refine ⟨_, rfl, ?_⟩; have n0_ := Aside0.mk (Kd.R_mono (Kd.R_keep (IsS259.apart (show IsS259 w _ gb186 t198 t199 from by repeat (first | (with_reducible first | exact HI186.out | apply IsS259.alloc | apply IsS259.drewN | apply IsS259.drew | apply IsS259.set_0 | apply IsS259.set_1 | refine IsS259.far ?_ NB186_196.out _) | exact HI186.out)) (by (with_reducible repeat (first | apply Kd.R_alloc | apply Kd.R_drewN | apply Kd.R_drew)); exact (Kd.R_mono (Kd.R_far (p := ⟨gb196, 1, none⟩) (Kd.R_mono HO_5.out (fun k_ hk => (⟨hk, hk.2⟩ : _ ∧ k_ ≠ gb196))) (fun _ hk => hk.2) (.int .i64 t197)) (fun _ h_ => h_.1))) (by decide)) hk (fun _ h => h.2)) (fun _ h => h.1)); have n1_ := Aside0.mk (KeepBut.blk hk (g' := gb196) (o := .cells #[.int .i64 t193, .int .i64 t197, .int .i64 0, .string (⟨#[]⟩ : ByteArray)] 151 (0, 0)) (by (with_reducible repeat (first | refine blk_drewN ?_ _ | refine blk_drew ?_ | refine blk_alloc ?_ _)); refine blk_put (cs := #[.int .i64 t193, .int .i64 0, .int .i64 0, .string (⟨#[]⟩ : ByteArray)]) ?_ 1 _ rfl; (with_reducible repeat (first | refine blk_drewN ?_ _ | refine blk_drew ?_ | refine blk_alloc ?_ _)); exact BK196.out) NB196_186.out (by simp)); have n2_ := Aside0.mk (hb); have n3_ := Aside0.mk (hi); clear HO_5; clear BK196; clear HB; clear HI186; have HO_5 := n0_; have BK196 := n1_; have HB := n2_; have HI186 := n3_; clear n0_ n1_ n2_ n3_; (try clear hb); (try clear hb2); (try clear hk); (try clear hi); have hcz22_0 : w21.cell? ⟨gb196, 0, none⟩ = some (.int .i64 t193) := (blk_cell BK196.out 0).trans rfl; have hcz22_1 : w21.cell? ⟨gb196, 1, none⟩ = some (.int .i64 t197) := (blk_cell BK196.out 1).trans rfl; have hcz22_2 : w21.cell? ⟨gb196, 2, none⟩ = some (.int .i64 0) := (blk_cell BK196.out 2).trans rfl; have hcz22_3 : w21.cell? ⟨gb196, 3, none⟩ = some (.string (⟨#[]⟩ : ByteArray)) := (blk_cell BK196.out 3).trans rfl; have hfz22_0 := blk_frozen BK196.out 0; have hfz22_1 := blk_frozen BK196.out 1; have hfz22_2 := blk_frozen BK196.out 2; have hfz22_3 := blk_frozen BK196.out 3))
            go_meet
            case rel => exact ⟨_, (t201), (t202), (0), (t200), H', ⟨by have := HK1.out; first | omega | exact Nat.le_refl _⟩, ⟨by (with_reducible repeat (first | apply Kd.R_alloc | apply Kd.R_drewN | apply Kd.R_drew)); exact Kd.R_mono (Kd.R_far (p := ⟨gb196, 3, none⟩) (Kd.R_mono HO_5.out (fun k_ hk => (⟨hk, hk.2⟩ : _ ∧ k_ ≠ gb196))) (fun _ hk => hk.2) (.string t200)) (fun _ hk => hk.1.2)⟩, ⟨by (with_reducible repeat (first | refine blk_drewN ?_ _ | refine blk_drew ?_ | refine blk_alloc ?_ _)); refine blk_put (cs := #[.int .i64 t193, .int .i64 t197, .int .i64 0, .string (⟨#[]⟩ : ByteArray)]) ?_ 3 _ rfl; (with_reducible repeat (first | refine blk_drewN ?_ _ | refine blk_drew ?_ | refine blk_alloc ?_ _)); exact BK196.out⟩, ⟨by repeat (first | (with_reducible first | exact HI186.out | apply IsS259.alloc | apply IsS259.drewN | apply IsS259.drew | apply IsS259.set_0 | apply IsS259.set_1 | refine IsS259.far ?_ NB186_196.out _) | exact HI186.out)⟩, ⟨by repeat (first | (with_reducible first | exact HB.out | apply below_alloc | apply pw_below_drewN | apply below_drew1 | refine below_set ?_ (IsS259.ge HI186.out) | refine below_set ?_ GE196.out) | exact HB.out)⟩⟩
          · rw [if_neg c17] at H
            have c17b0 : decide (t197 ≤ 24) = false := decide_eq_false c17
            clear c17
            (first | rw [c17b0] | (simp only [i64_w, i32_w]; rw [c17b0]) | skip)
            replace H := Option.bind_eq_some_iff.mp H
            obtain ⟨⟨t203, t204, t205⟩, A230, H⟩ := H
            replace H : (sheet_Cells.j1 k1 a0 x5_1 x6_1 t204 t205 t193 t197 t203 (⟨#[]⟩ : ByteArray)) = some (r1, r2) := H
            have A23 := Aside0.mk A230
            clear A230
            have H' := Aside0.mk H
            clear H
            go_wp2_with (first | ((with_reducible refine gate_callee (f := 161) rfl ?_); refine goesL_ (some 36) rfl rfl Tryz.func161 (by kernel_rfl) rfl #[.pointer (some ⟨gb186, 0, none⟩), .int .i64 2] rfl (by (try simp only [List.map_toArray, List.map_cons, List.map_nil]); first | done | rfl | (simp only [List.length_drop, List.length_take]; rfl) | (simp only [ByteArray.size_append, Int.natCast_add]; rfl) | (simp [ByteArray.size_append, Int.add_assoc]; done)) ?_; (with_reducible refine (sheet_reader_num.calls k1 gb186 t198 t199 2 t203 t204 t205 w _ ?side1 ?side2 A23.out).mono ?_); (case side1 => repeat (first | (with_reducible first | exact HI186.out | apply IsS259.alloc | apply IsS259.drewN | apply IsS259.drew | apply IsS259.set_0 | apply IsS259.set_1 | refine IsS259.far ?_ NB186_196.out _) | exact HI186.out)); (case side2 => repeat (first | (with_reducible first | exact HB.out | apply below_alloc | apply pw_below_drewN | apply below_drew1 | refine below_set ?_ (IsS259.ge HI186.out) | refine below_set ?_ GE196.out) | exact HB.out)); rintro e w24 ⟨rfl, hi, hb, hk⟩; refine ⟨_, rfl, ?_⟩; have n0_ := Aside0.mk (Kd.R_mono (Kd.R_keep (IsS259.apart (show IsS259 w _ gb186 t198 t199 from by repeat (first | (with_reducible first | exact HI186.out | apply IsS259.alloc | apply IsS259.drewN | apply IsS259.drew | apply IsS259.set_0 | apply IsS259.set_1 | refine IsS259.far ?_ NB186_196.out _) | exact HI186.out)) (by (with_reducible repeat (first | apply Kd.R_alloc | apply Kd.R_drewN | apply Kd.R_drew)); exact (Kd.R_mono (Kd.R_far (p := ⟨gb196, 1, none⟩) (Kd.R_mono HO_5.out (fun k_ hk => (⟨hk, hk.2⟩ : _ ∧ k_ ≠ gb196))) (fun _ hk => hk.2) (.int .i64 t197)) (fun _ h_ => h_.1))) (by decide)) hk (fun _ h => h.2)) (fun _ h => h.1)); have n1_ := Aside0.mk (KeepBut.blk hk (g' := gb196) (o := .cells #[.int .i64 t193, .int .i64 t197, .int .i64 0, .string (⟨#[]⟩ : ByteArray)] 151 (0, 0)) (by (with_reducible repeat (first | refine blk_drewN ?_ _ | refine blk_drew ?_ | refine blk_alloc ?_ _)); refine blk_put (cs := #[.int .i64 t193, .int .i64 0, .int .i64 0, .string (⟨#[]⟩ : ByteArray)]) ?_ 1 _ rfl; (with_reducible repeat (first | refine blk_drewN ?_ _ | refine blk_drew ?_ | refine blk_alloc ?_ _)); exact BK196.out) NB196_186.out (by simp)); have n2_ := Aside0.mk (hb); have n3_ := Aside0.mk (hi); clear HO_5; clear BK196; clear HB; clear HI186; have HO_5 := n0_; have BK196 := n1_; have HB := n2_; have HI186 := n3_; clear n0_ n1_ n2_ n3_; (try clear hb); (try clear hb2); (try clear hk); (try clear hi); have hnb25 := NB196_186.out; have hnc25 := NB186_196.out; have hcz26_0 : w24.cell? ⟨gb196, 0, none⟩ = some (.int .i64 t193) := (blk_cell BK196.out 0).trans rfl; have hcz26_1 : w24.cell? ⟨gb196, 1, none⟩ = some (.int .i64 t197) := (blk_cell BK196.out 1).trans rfl; have hcz26_2 : w24.cell? ⟨gb196, 2, none⟩ = some (.int .i64 0) := (blk_cell BK196.out 2).trans rfl; have hcz26_3 : w24.cell? ⟨gb196, 3, none⟩ = some (.string (⟨#[]⟩ : ByteArray)) := (blk_cell BK196.out 3).trans rfl; have hfz26_0 := blk_frozen BK196.out 0; have hfz26_1 := blk_frozen BK196.out 1; have hfz26_2 := blk_frozen BK196.out 2; have hfz26_3 := blk_frozen BK196.out 3))
            go_meet
            case rel => exact ⟨_, (t204), (t205), (t203), ((⟨#[]⟩ : ByteArray)), H', ⟨by have := HK1.out; first | omega | exact Nat.le_refl _⟩, ⟨by (with_reducible repeat (first | apply Kd.R_alloc | apply Kd.R_drewN | apply Kd.R_drew)); exact Kd.R_mono (Kd.R_far (p := ⟨gb196, 2, none⟩) (Kd.R_mono HO_5.out (fun k_ hk => (⟨hk, hk.2⟩ : _ ∧ k_ ≠ gb196))) (fun _ hk => hk.2) (.int .i64 t203)) (fun _ hk => hk.1.2)⟩, ⟨by (with_reducible repeat (first | refine blk_drewN ?_ _ | refine blk_drew ?_ | refine blk_alloc ?_ _)); refine blk_put (cs := #[.int .i64 t193, .int .i64 t197, .int .i64 0, .string (⟨#[]⟩ : ByteArray)]) ?_ 2 _ rfl; (with_reducible repeat (first | refine blk_drewN ?_ _ | refine blk_drew ?_ | refine blk_alloc ?_ _)); exact BK196.out⟩, ⟨by repeat (first | (with_reducible first | exact HI186.out | apply IsS259.alloc | apply IsS259.drewN | apply IsS259.drew | apply IsS259.set_0 | apply IsS259.set_1 | refine IsS259.far ?_ NB186_196.out _) | exact HI186.out)⟩, ⟨by repeat (first | (with_reducible first | exact HB.out | apply below_alloc | apply pw_below_drewN | apply below_drew1 | refine below_set ?_ (IsS259.ge HI186.out) | refine below_set ?_ GE196.out) | exact HB.out)⟩⟩
        case rest =>
          clear HC10
          try clear c1
          try clear c2
          try clear p2
          try clear c7
          try clear c7b0
          try clear c13
          try clear c16
          try clear c17
          try clear c17b0
          try clear c19
          try clear c25
          try clear hcz14_0
          try clear hcz14_1
          try clear hcz14_2
          try clear hcz14_3
          try clear hcz16_0
          try clear hcz16_1
          try clear hcz16_2
          try clear hcz16_3
          try clear hcz20_0
          try clear hcz20_1
          try clear hcz20_2
          try clear hcz20_3
          try clear hcz22_0
          try clear hcz22_1
          try clear hcz22_2
          try clear hcz22_3
          try clear hcz26_0
          try clear hcz26_1
          try clear hcz26_2
          try clear hcz26_3
          try clear hfz14_0
          try clear hfz14_1
          try clear hfz14_2
          try clear hfz14_3
          try clear hfz16_0
          try clear hfz16_1
          try clear hfz16_2
          try clear hfz16_3
          try clear hfz20_0
          try clear hfz20_1
          try clear hfz20_2
          try clear hfz20_3
          try clear hfz22_0
          try clear hfz22_1
          try clear hfz22_2
          try clear hfz22_3
          try clear hfz26_0
          try clear hfz26_1
          try clear hfz26_2
          try clear hfz26_3
          try clear p2
          obtain ⟨kq, x187000_9, x187001_9, x197002_9, x197003_9, HA, HJ9, HO_5, BK196, HI186, HB⟩ := hcut
          cases kq with
          | zero => exact absurd HA.out (by simp [sheet_Cells.j1])
          | succ kj9 =>
            have H := HA.out
            clear HA
            simp only [sheet_Cells.j1] at H
            by_cases c27 : x5_1.length < 3518437208883
            · rw [if_pos c27] at H
              have LMc27 := Aside0.mk c27
              clear c27
              obtain ⟨y206, hy206⟩ : ∃ y_ : List (S151), y_ = (x5_1 ++ [(⟨t193, t197, x197002_9, x197003_9⟩ : S151)]) := ⟨_, rfl⟩
              replace H : (sheet_Cells.l0 kj9 a0 y206 (wrap64 (x6_1 - 1)) x187000_9 x187001_9) = some (r1, r2) := by first | (rw [hy206]; with_reducible exact H) | (have H2_ := (Option.bind_some _ _).symm.trans H; rw [hy206]; with_reducible exact H2_) | (have H2_ := (Option.bind_some _ _).symm.trans H; with_reducible exact H2_) | with_reducible exact H | (rw [hy206]; exact H) | exact H
              have Ny206 := Aside0.mk hy206
              clear hy206
              have H' := Aside0.mk H
              clear H
              have hnb28 := NB196_186.out
              have hnc28 := NB186_196.out
              have hcz29_0 : wc.cell? ⟨gb196, 0, none⟩ = some (.int .i64 t193) := (blk_cell BK196.out 0).trans rfl
              have hcz29_1 : wc.cell? ⟨gb196, 1, none⟩ = some (.int .i64 t197) := (blk_cell BK196.out 1).trans rfl
              have hcz29_2 : wc.cell? ⟨gb196, 2, none⟩ = some (.int .i64 x197002_9) := (blk_cell BK196.out 2).trans rfl
              have hcz29_3 : wc.cell? ⟨gb196, 3, none⟩ = some (.string x197003_9) := (blk_cell BK196.out 3).trans rfl
              have hfz29_0 := blk_frozen BK196.out 0
              have hfz29_1 := blk_frozen BK196.out 1
              have hfz29_2 := blk_frozen BK196.out 2
              have hfz29_3 := blk_frozen BK196.out 3
              go_wp2_with (first | ((with_reducible refine gate_builtin (b := .append) (xs := #[.tmp 38, .tmp 40]) rfl ?_); at_builtin; refine Kd.R_append k151 (w0 := w) w.heap.size rfl (.tmp 38) (.tmp 40) 149 151 (.agg #[(.int .i64 0), (.int .i64 0), (.int .i64 0), (.string ⟨#[]⟩)]) 40 rfl Tryz.underlying149 info151 rfl (by decide) (by omega) u5 x5_1 (⟨t193, t197, x197002_9, x197003_9⟩ : S151) [.int .i64 t193, .int .i64 t197, .int .i64 x197002_9, .string x197003_9] (fun k_ => k_ ≠ gb196) (fun _ => False) rfl rfl ?aP (fun _ hk => hk.elim) ?aF ?aO ?aB ?aS ?aL ?_; (case aP => exact k151_mkM _ _ _ (⟨t193, t197, x197002_9, x197003_9⟩ : S151)); (case aB => exact (by repeat (first | (with_reducible first | exact HB.out | apply below_alloc | apply pw_below_drewN | apply below_drew1 | refine below_set ?_ (IsS259.ge HI186.out) | refine below_set ?_ GE196.out) | exact HB.out))); (case aF => exact (fun k_ hk => Kd.freshB (g := gb196) (o := .cells #[.int .i64 t193, .int .i64 t197, .int .i64 x197002_9, .string x197003_9] 151 (0, 0)) (by (with_reducible repeat (first | refine blk_drewN ?_ _ | refine blk_drew ?_ | refine blk_alloc ?_ _)); exact BK196.out) k_ hk)); (case aO => exact (by (with_reducible repeat (first | apply Kd.R_alloc | apply Kd.R_drewN | apply Kd.R_drew)); exact HO_5.out)); (case aS => exact (below_size (by repeat (first | (with_reducible first | exact HB.out | apply below_alloc | apply pw_below_drewN | apply below_drew1 | refine below_set ?_ (IsS259.ge HI186.out) | refine below_set ?_ GE196.out) | exact HB.out)))); (case aL => have := LMc27.out; omega); intro v207 w30 ho hb hg hat; rw [← Ny206.out] at ho; have n0_ := Aside0.mk (blk_grown (g := gb196) (o := .cells #[.int .i64 t193, .int .i64 t197, .int .i64 x197002_9, .string x197003_9] 151 (0, 0)) (by (with_reducible repeat (first | refine blk_drewN ?_ _ | refine blk_drew ?_ | refine blk_alloc ?_ _)); exact BK196.out) hg (Kd.R_away HO_5.out (fun _ hk => hk))); have n1_ := Aside0.mk (IsS259.grown (show IsS259 w _ gb186 x187000_9 x187001_9 from by repeat (first | (with_reducible first | exact HI186.out | apply IsS259.alloc | apply IsS259.drewN | apply IsS259.drew | apply IsS259.set_0 | apply IsS259.set_1 | refine IsS259.far ?_ NB186_196.out _) | exact HI186.out)) hg (IsS259.own_ne HI186.out HO_5.out (by decide))); have n2_ := Aside0.mk (hb); have n3_ := Aside0.mk (ho); clear BK196; clear HI186; clear HB; clear HO_5; have BK196 := n0_; have HI186 := n1_; have HB := n2_; have HO208 := n3_; clear n0_ n1_ n2_ n3_; clear ho hb hg hat))
              go_roundg kj9
              case measure => have := HK1.out; have := HJ9.out; omega
              case rel => exact ⟨(y206), (wrap64 (x6_1 - 1)), (x187000_9), (x187001_9), (by first | rfl | (simp; done) | (simp [*]; done)), H', ⟨by have := HK1.out; have := HJ9.out; omega⟩, ⟨by (with_reducible repeat (first | apply Kd.R_alloc | apply Kd.R_drewN | apply Kd.R_drew)); exact Kd.R_mono HO208.out (fun _ hk => trivial)⟩, ⟨by repeat (first | (with_reducible first | exact HI186.out | apply IsS259.alloc | apply IsS259.drewN | apply IsS259.drew | apply IsS259.set_0 | apply IsS259.set_1 | refine IsS259.far ?_ NB186_196.out _) | exact HI186.out)⟩, ⟨by repeat (first | (with_reducible first | exact HB.out | apply below_alloc | apply pw_below_drewN | apply below_drew1 | refine below_set ?_ (IsS259.ge HI186.out) | refine below_set ?_ GE196.out) | exact HB.out)⟩⟩
            · rw [if_neg c27] at H
              exact absurd H (by simp)
      · rw [if_neg c7] at H
        have c7b0 : decide (0 < x6_1) = false := decide_eq_false c7
        clear c7
        replace H := Option.bind_eq_some_iff.mp H
        obtain ⟨⟨t209, t210⟩, A310, H⟩ := H
        replace H : (if x187001_1 = true then (sheet_Cells.j2 k1 x5_1 true) else (if t210 = true then (sheet_Cells.j2 k1 x5_1 (t209.toList != a0.toList)) else (sheet_Cells.j2 k1 x5_1 true))) = some (r1, r2) := H
        have A31 := Aside0.mk A310
        clear A310
        have HC32 := Aside0.mk H
        clear H
        obtain ⟨Ao33, co33, eo33⟩ := Kd.R_slice HO_5.out
        subst eo33
        go_upto_region 14 with (first | ((with_reducible refine gate_callee (f := 98) rfl ?_); refine goesL_ (some 44) rfl rfl Tryz.func98 (by kernel_rfl) rfl #[.slice Ao33 x5_1.length co33] rfl (by (try simp only [List.map_toArray, List.map_cons, List.map_nil]); first | done | rfl | (simp only [List.length_drop, List.length_take]; rfl) | (simp only [ByteArray.size_append, Int.natCast_add]; rfl) | (simp [ByteArray.size_append, Int.add_assoc]; done)) ?_; (with_reducible refine (sheet_Leaf.calls _ _ x5_1 t209 t210 _ ?side1 ?side2 A31.out).mono ?_); (case side1 => repeat (first | exact (Kd.R_reads' HO_5.out).2.2 | (with_reducible refine Kd.C_alloc ?_ _) | (with_reducible refine Kd.C_drewN ?_ _) | (with_reducible refine Kd.C_drew ?_))); (case side2 => exact (Kd.R_reads' HO_5.out).2.1); rintro e w34 ⟨rfl, hb⟩; refine ⟨_, rfl, ?_⟩; have n0_ := Aside0.mk (Kd.R_below (by (with_reducible repeat (first | apply Kd.R_alloc | apply Kd.R_drewN | apply Kd.R_drew)); exact HO_5.out) hb); have n1_ := Aside0.mk (IsS259.below (by repeat (first | (with_reducible first | exact HI186.out | apply IsS259.alloc | apply IsS259.drewN | apply IsS259.drew | apply IsS259.set_0 | apply IsS259.set_1) | exact HI186.out)) hb); have n2_ := Aside0.mk (below_step (by repeat (first | (with_reducible first | exact HB.out | apply below_alloc | apply pw_below_drewN | apply below_drew1 | refine below_set ?_ (IsS259.ge HI186.out)) | exact HB.out)) hb); clear HO_5; clear HI186; clear HB; have HO_5 := n0_; have HI186 := n1_; have HB := n2_; clear n0_ n1_ n2_; (try clear hb); (try clear hb2); (try clear hk); (try clear hi)))
        (try simp only [Act.put, List.setIfInBounds_toArray, List.set_cons_zero, List.set_cons_succ])
        go_cut [59] (fun v59 wc => ∃ (kq : Nat) (x59_31 : Bool), v59 = .bool x59_31 ∧ Aside0 (sheet_Cells.j2 kq x5_1 x59_31 = some (r1, r2)) ∧ Aside0 (kq ≤ k1) ∧ Aside0 (Kd.R k151 151 wc w.heap.size (fun _ => True) (.slice Ao33 x5_1.length co33) x5_1) ∧ Aside0 (Below w.heap.size w wc))
        case first =>
          have H := HC32.out
          clear HC32
          by_cases c35 : x187001_1 = true
          · subst c35
            have H1 : (sheet_Cells.j2 k1 x5_1 true) = some (r1, r2) := by rw [if_pos rfl] at H; exact H
            clear H
            have H := H1
            clear H1
            have H' := Aside0.mk H
            clear H
            obtain ⟨HGz36, hgz36⟩ := HI186.out
            have hcz36_0 := cellS259_0 HGz36
            have hcz36_1 := cellS259_1 HGz36
            have hfz36_0 := blk_frozen HGz36 0
            have hfz36_1 := blk_frozen HGz36 1
            clear HGz36 hgz36
            go_wp2
            go_meet
            case rel => exact ⟨_, (true), (by first | rfl | (simp; done) | (simp [*]; done)), H', ⟨by have := HK1.out; first | omega | exact Nat.le_refl _⟩, ⟨by (with_reducible repeat (first | apply Kd.R_alloc | apply Kd.R_drewN | apply Kd.R_drew)); exact HO_5.out⟩, ⟨by repeat (first | (with_reducible first | exact HB.out | apply below_alloc | apply pw_below_drewN | apply below_drew1 | refine below_set ?_ (IsS259.ge HI186.out)) | exact HB.out)⟩⟩
          · replace c35 := Bool.eq_false_iff.mpr c35
            subst c35
            have H1 : (if t210 = true then (sheet_Cells.j2 k1 x5_1 (t209.toList != a0.toList)) else (sheet_Cells.j2 k1 x5_1 true)) = some (r1, r2) := by rw [if_neg (show ¬ (false = true) by decide)] at H; exact H
            clear H
            have H := H1
            clear H1
            by_cases c37 : t210 = true
            · subst c37
              have H1 : (sheet_Cells.j2 k1 x5_1 (t209.toList != a0.toList)) = some (r1, r2) := by rw [if_pos rfl] at H; exact H
              clear H
              have H := H1
              clear H1
              have H' := Aside0.mk H
              clear H
              obtain ⟨HGz38, hgz38⟩ := HI186.out
              have hcz38_0 := cellS259_0 HGz38
              have hcz38_1 := cellS259_1 HGz38
              have hfz38_0 := blk_frozen HGz38 0
              have hfz38_1 := blk_frozen HGz38 1
              clear HGz38 hgz38
              go_wp2
              go_meet
              case rel => exact ⟨_, ((t209.toList != a0.toList)), (by first | rfl | (simp; done) | (simp [*]; done)), H', ⟨by have := HK1.out; first | omega | exact Nat.le_refl _⟩, ⟨by (with_reducible repeat (first | apply Kd.R_alloc | apply Kd.R_drewN | apply Kd.R_drew)); exact HO_5.out⟩, ⟨by repeat (first | (with_reducible first | exact HB.out | apply below_alloc | apply pw_below_drewN | apply below_drew1 | refine below_set ?_ (IsS259.ge HI186.out)) | exact HB.out)⟩⟩
            · replace c37 := Bool.eq_false_iff.mpr c37
              subst c37
              have H1 : (sheet_Cells.j2 k1 x5_1 true) = some (r1, r2) := by rw [if_neg (show ¬ (false = true) by decide)] at H; exact H
              clear H
              have H := H1
              clear H1
              have H' := Aside0.mk H
              clear H
              obtain ⟨HGz39, hgz39⟩ := HI186.out
              have hcz39_0 := cellS259_0 HGz39
              have hcz39_1 := cellS259_1 HGz39
              have hfz39_0 := blk_frozen HGz39 0
              have hfz39_1 := blk_frozen HGz39 1
              clear HGz39 hgz39
              go_wp2
              go_meet
              case rel => exact ⟨_, (true), (by first | rfl | (simp; done) | (simp [*]; done)), H', ⟨by have := HK1.out; first | omega | exact Nat.le_refl _⟩, ⟨by (with_reducible repeat (first | apply Kd.R_alloc | apply Kd.R_drewN | apply Kd.R_drew)); exact HO_5.out⟩, ⟨by repeat (first | (with_reducible first | exact HB.out | apply below_alloc | apply pw_below_drewN | apply below_drew1 | refine below_set ?_ (IsS259.ge HI186.out)) | exact HB.out)⟩⟩
        case rest =>
          clear HC32
          try clear c1
          try clear c2
          try clear p2
          try clear c3
          try clear p6
          try clear c7
          try clear c7b0
          try clear c9
          try clear c13
          try clear c16
          try clear c17
          try clear c17b0
          try clear c19
          try clear c25
          try clear c27
          try clear c28
          try clear c35
          try clear c37
          try clear hcz14_0
          try clear hcz14_1
          try clear hcz14_2
          try clear hcz14_3
          try clear hcz16_0
          try clear hcz16_1
          try clear hcz16_2
          try clear hcz16_3
          try clear hcz20_0
          try clear hcz20_1
          try clear hcz20_2
          try clear hcz20_3
          try clear hcz22_0
          try clear hcz22_1
          try clear hcz22_2
          try clear hcz22_3
          try clear hcz26_0
          try clear hcz26_1
          try clear hcz26_2
          try clear hcz26_3
          try clear hcz29_0
          try clear hcz29_1
          try clear hcz29_2
          try clear hcz29_3
          try clear hcz36_0
          try clear hcz36_1
          try clear hcz38_0
          try clear hcz38_1
          try clear hcz39_0
          try clear hcz39_1
          try clear hfz14_0
          try clear hfz14_1
          try clear hfz14_2
          try clear hfz14_3
          try clear hfz16_0
          try clear hfz16_1
          try clear hfz16_2
          try clear hfz16_3
          try clear hfz20_0
          try clear hfz20_1
          try clear hfz20_2
          try clear hfz20_3
          try clear hfz22_0
          try clear hfz22_1
          try clear hfz22_2
          try clear hfz22_3
          try clear hfz26_0
          try clear hfz26_1
          try clear hfz26_2
          try clear hfz26_3
          try clear hfz29_0
          try clear hfz29_1
          try clear hfz29_2
          try clear hfz29_3
          try clear hfz36_0
          try clear hfz36_1
          try clear hfz38_0
          try clear hfz38_1
          try clear hfz39_0
          try clear hfz39_1
          try clear p2
          obtain ⟨kq, x59_31, rfl, HA, HJ31, HO_5, HB⟩ := hcut
          cases kq with
          | zero => exact absurd HA.out (by simp [sheet_Cells.j2])
          | succ kj31 =>
            have H := HA.out
            clear HA
            simp only [sheet_Cells.j2] at H
            by_cases c40 : x59_31 = true
            · subst c40
              have H1 : (some (([] : List (S151)), false)) = some (r1, r2) := by rw [if_pos rfl] at H; exact H
              clear H
              have H := H1
              clear H1
              simp only [Option.some.injEq, Prod.mk.injEq] at H
              obtain ⟨rfl, rfl⟩ := H
              go_wp2
              go_ret2
              exact ⟨_, by first | rfl | (simp [errW_none, errW_some] <;> rfl) | (simp [*, errW_none, errW_some] <;> rfl), by first | exact Kd.R_nil _ _ _ _ _ | exact Kd.N_nil _ _ _ _ _ | exact Kd.V_nil _ _ _ _ _ | exact Kd.Q_nil _ _ _ _ _ | exact Kd.S_nil _ _ _ _ _, by repeat (first | (with_reducible first | exact HB.out | apply below_alloc | apply pw_below_drewN | apply below_drew1) | exact HB.out)⟩
            · replace c40 := Bool.eq_false_iff.mpr c40
              subst c40
              have H1 : (some (x5_1, true)) = some (r1, r2) := by rw [if_neg (show ¬ (false = true) by decide)] at H; exact H
              clear H
              have H := H1
              clear H1
              simp only [Option.some.injEq, Prod.mk.injEq] at H
              obtain ⟨rfl, rfl⟩ := H
              go_wp2
              go_ret2
              exact ⟨_, by first | rfl | (simp [errW_none, errW_some] <;> rfl) | (simp [*, errW_none, errW_some] <;> rfl), by (with_reducible repeat (first | apply Kd.R_alloc | apply Kd.R_drewN | apply Kd.R_drew)); exact HO_5.out, by repeat (first | (with_reducible first | exact HB.out | apply below_alloc | apply pw_below_drewN | apply below_drew1) | exact HB.out)⟩
end Go.Proofs.YtdhaoaehboonpaaGreat.PRd
