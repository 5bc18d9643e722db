/- Of the texts that the row stands on, what it needs (part 20), put together by a program of this session. -/
import Derived.Test.YtdhaoaehboonpaaGreatZeT16
import Derived.Test.YtdhaoaehboonpaaGreatZeT18
namespace Go.Proofs.YtdhaoaehboonpaaGreat.PRd
open Go.RowKit Go.Proofs.YtdhaoaehboonpaaGreatW.PrintWords Go.Proofs.YtdhaoaehboonpaaGreatW.PrintLast Go.Proofs.YtdhaoaehboonpaaGreatW.PrintMore
attribute [local go_sem] max2_int min2_int max_two min_two max_three min_three max_four min_four
set_option linter.unusedVariables false
set_option linter.unusedSimpArgs false
def sheet_Link.j0 : Nat → Int → ByteArray → Bool → Option (Int × ByteArray × Bool)
  | 0, _, _, _ => none
  | k + 1, x6, x7, x39 => if x39 = true then (some (0, (⟨#[]⟩ : ByteArray), false)) else (some (x6, x7, true))
def sheet_Link.f (k : Nat) (a0 : ByteArray) : Option (Int × ByteArray × Bool) := (sheet_reader_take.f a0 false 1).bind fun bt212 => ((sheet_reader_num.f k bt212.2.1 bt212.2.2 2).bind fun bt215 => ((sheet_reader_num.f k bt215.2.1 bt215.2.2 1).bind fun bt218 => ((sheet_reader_take.f bt218.2.1 bt218.2.2 bt218.1).bind fun bt221 => ((sheet_Chain.f bt215.1 bt221.1).bind fun bt224 => (if bt221.2.2 = true then (sheet_Link.j0 k bt215.1 bt221.1 true) else (if bt224.2 = true then (sheet_Link.j0 k bt215.1 bt221.1 (bt224.1.toList != a0.toList)) else (sheet_Link.j0 k bt215.1 bt221.1 true)))))))
set_option maxHeartbeats 8000000 in
set_option maxRecDepth 100000 in
theorem sheet_Link.calls (k : Nat) (a0 : ByteArray) (r1 : Int) (r2 : ByteArray) (r3 : Bool) (w : World) (h : sheet_Link.f k a0 = some (r1, r2, r3)) :
    Calls Tryz.prog 181 #[.string a0] w fun e w' => e = .returned (.tuple #[.int .i64 r1, .string r2, .bool r3]) ∧ Below w.heap.size w w' := by
  have hu259 := Tryz.underlying259
  have HB := Aside0.mk (Below.refl w.heap.size w)
  have H : ((sheet_reader_take.f a0 false 1).bind fun bt212 => ((sheet_reader_num.f k bt212.2.1 bt212.2.2 2).bind fun bt215 => ((sheet_reader_num.f k bt215.2.1 bt215.2.2 1).bind fun bt218 => ((sheet_reader_take.f bt218.2.1 bt218.2.2 bt218.1).bind fun bt221 => ((sheet_Chain.f bt215.1 bt221.1).bind fun bt224 => (if bt221.2.2 = true then (sheet_Link.j0 k bt215.1 bt221.1 true) else (if bt224.2 = true then (sheet_Link.j0 k bt215.1 bt221.1 (bt224.1.toList != a0.toList)) else (sheet_Link.j0 k bt215.1 bt221.1 true)))))))) = some (r1, r2, r3) := h
  clear h
  replace H := Option.bind_eq_some_iff.mp H
  obtain ⟨⟨t212, t213, t214⟩, A20, H⟩ := H
  replace H : ((sheet_reader_num.f k t213 t214 2).bind fun bt215 => ((sheet_reader_num.f k bt215.2.1 bt215.2.2 1).bind fun bt218 => ((sheet_reader_take.f bt218.2.1 bt218.2.2 bt218.1).bind fun bt221 => ((sheet_Chain.f bt215.1 bt221.1).bind fun bt224 => (if bt221.2.2 = true then (sheet_Link.j0 k bt215.1 bt221.1 true) else (if bt224.2 = true then (sheet_Link.j0 k bt215.1 bt221.1 (bt224.1.toList != a0.toList)) else (sheet_Link.j0 k bt215.1 bt221.1 true))))))) = some (r1, r2, r3) := H
  have A2 := Aside0.mk A20
  clear A20
  replace H := Option.bind_eq_some_iff.mp H
  obtain ⟨⟨t215, t216, t217⟩, A30, H⟩ := H
  replace H : ((sheet_reader_num.f k t216 t217 1).bind fun bt218 => ((sheet_reader_take.f bt218.2.1 bt218.2.2 bt218.1).bind fun bt221 => ((sheet_Chain.f t215 bt221.1).bind fun bt224 => (if bt221.2.2 = true then (sheet_Link.j0 k t215 bt221.1 true) else (if bt224.2 = true then (sheet_Link.j0 k t215 bt221.1 (bt224.1.toList != a0.toList)) else (sheet_Link.j0 k t215 bt221.1 true)))))) = some (r1, r2, r3) := H
  have A3 := Aside0.mk A30
  clear A30
  replace H := Option.bind_eq_some_iff.mp H
  obtain ⟨⟨t218, t219, t220⟩, A40, H⟩ := H
  replace H : ((sheet_reader_take.f t219 t220 t218).bind fun bt221 => ((sheet_Chain.f t215 bt221.1).bind fun bt224 => (if bt221.2.2 = true then (sheet_Link.j0 k t215 bt221.1 true) else (if bt224.2 = true then (sheet_Link.j0 k t215 bt221.1 (bt224.1.toList != a0.toList)) else (sheet_Link.j0 k t215 bt221.1 true))))) = some (r1, r2, r3) := H
  have A4 := Aside0.mk A40
  clear A40
  replace H := Option.bind_eq_some_iff.mp H
  obtain ⟨⟨t221, t222, t223⟩, A50, H⟩ := H
  replace H : ((sheet_Chain.f t215 t221).bind fun bt224 => (if t223 = true then (sheet_Link.j0 k t215 t221 true) else (if bt224.2 = true then (sheet_Link.j0 k t215 t221 (bt224.1.toList != a0.toList)) else (sheet_Link.j0 k t215 t221 true)))) = some (r1, r2, r3) := H
  have A5 := Aside0.mk A50
  clear A50
  replace H := Option.bind_eq_some_iff.mp H
  obtain ⟨⟨t224, t225⟩, A60, H⟩ := H
  replace H : (if t223 = true then (sheet_Link.j0 k t215 t221 true) else (if t225 = true then (sheet_Link.j0 k t215 t221 (t224.toList != a0.toList)) else (sheet_Link.j0 k t215 t221 true))) = some (r1, r2, r3) := H
  have A6 := Aside0.mk A60
  clear A60
  have HC7 := Aside0.mk H
  clear H
  go_enter Tryz.func181, Tryz.ntmps181
  go_upto_region 6 with (first | ((with_reducible refine gate_dst (N := 12) rfl ?_); refine box_event ?hg (N := 12) ?hd (cs := #[.string a0, .bool false]) (t := 259) ?hr ?_; (case hd => rfl); (case hg => rfl); (case hr => first | (go_simp; done) | (go_simp; rfl)); intro gb211 hg w8 hbox hb; have n0_ := Aside0.mk (below_step (by repeat (first | (with_reducible first | exact HB.out | apply below_alloc | apply pw_below_drewN | apply below_drew1) | exact HB.out)) hb); have n1_ := Aside0.mk ((show IsS259 w w8 gb211 a0 false from ⟨hbox, (by rw [hg]; exact (below_size (by repeat (first | (with_reducible first | exact HB.out | apply below_alloc | apply pw_below_drewN | apply below_drew1) | exact HB.out))) : w.heap.size ≤ gb211)⟩)); have n2_ := Aside0.mk ((by rw [hg]; exact (below_size (by repeat (first | (with_reducible first | exact HB.out | apply below_alloc | apply pw_below_drewN | apply below_drew1) | exact HB.out))) : w.heap.size ≤ gb211)); have n3_ := Aside0.mk ((by rw [hg]; exact (below_size (by repeat (first | (with_reducible first | exact HB.out | apply below_alloc | apply pw_below_drewN | apply below_drew1) | exact HB.out))) : w.heap.size ≤ gb211)); clear HB; have HB := n0_; have HI211 := n1_; have GW211 := n2_; have GE211 := n3_; clear n0_ n1_ n2_ n3_; clear hb hbox hg) | ((with_reducible refine gate_callee (f := 160) rfl ?_); refine goesL_ (some 14) rfl rfl Tryz.func160 (by kernel_rfl) rfl #[.pointer (some ⟨gb211, 0, none⟩), .int .i64 1] rfl (by (try simp only [List.map_toArray, List.map_cons, List.map_nil]); first | done | rfl | (simp only [List.length_drop, List.length_take]; rfl) | (simp only [ByteArray.size_append, Int.natCast_add]; rfl) | (simp [ByteArray.size_append, Int.add_assoc]; done)) ?_; (with_reducible refine (sheet_reader_take.calls gb211 a0 false 1 t212 t213 t214 w _ ?side1 ?side2 A2.out).mono ?_); (case side1 => repeat (first | (with_reducible first | exact HI211.out | apply IsS259.alloc | apply IsS259.drewN | apply IsS259.drew | apply IsS259.set_0 | apply IsS259.set_1) | exact HI211.out)); (case side2 => repeat (first | (with_reducible first | exact HB.out | apply below_alloc | apply pw_below_drewN | apply below_drew1 | refine below_set ?_ (IsS259.ge HI211.out)) | exact HB.out)); rintro e w9 ⟨rfl, hi, hb, hk⟩; refine ⟨_, rfl, ?_⟩; have n0_ := Aside0.mk (hb); have n1_ := Aside0.mk (hi); clear HB; clear HI211; have HB := n0_; have HI211 := n1_; clear n0_ n1_; (try clear hb); (try clear hb2); (try clear hk); (try clear hi)) | ((with_reducible refine gate_callee (f := 161) rfl ?_); refine goesL_ (some 16) rfl rfl Tryz.func161 (by kernel_rfl) rfl #[.pointer (some ⟨gb211, 0, none⟩), .int .i64 2] rfl (by (try simp only [List.map_toArray, List.map_cons, List.map_nil]); first | done | rfl | (simp only [List.length_drop, List.length_take]; rfl) | (simp only [ByteArray.size_append, Int.natCast_add]; rfl) | (simp [ByteArray.size_append, Int.add_assoc]; done)) ?_; (with_reducible refine (sheet_reader_num.calls k gb211 t213 t214 2 t215 t216 t217 w _ ?side1 ?side2 A3.out).mono ?_); (case side1 => repeat (first | (with_reducible first | exact HI211.out | apply IsS259.alloc | apply IsS259.drewN | apply IsS259.drew | apply IsS259.set_0 | apply IsS259.set_1) | exact HI211.out)); (case side2 => repeat (first | (with_reducible first | exact HB.out | apply below_alloc | apply pw_below_drewN | apply below_drew1 | refine below_set ?_ (IsS259.ge HI211.out)) | exact HB.out)); rintro e w10 ⟨rfl, hi, hb, hk⟩; refine ⟨_, rfl, ?_⟩; have n0_ := Aside0.mk (hb); have n1_ := Aside0.mk (hi); clear HB; clear HI211; have HB := n0_; have HI211 := n1_; clear n0_ n1_; (try clear hb); (try clear hb2); (try clear hk); (try clear hi)) | ((with_reducible refine gate_callee (f := 161) rfl ?_); refine goesL_ (some 19) rfl rfl Tryz.func161 (by kernel_rfl) rfl #[.pointer (some ⟨gb211, 0, none⟩), .int .i64 1] rfl (by (try simp only [List.map_toArray, List.map_cons, List.map_nil]); first | done | rfl | (simp only [List.length_drop, List.length_take]; rfl) | (simp only [ByteArray.size_append, Int.natCast_add]; rfl) | (simp [ByteArray.size_append, Int.add_assoc]; done)) ?_; (with_reducible refine (sheet_reader_num.calls k gb211 t216 t217 1 t218 t219 t220 w _ ?side1 ?side2 A4.out).mono ?_); (case side1 => repeat (first | (with_reducible first | exact HI211.out | apply IsS259.alloc | apply IsS259.drewN | apply IsS259.drew | apply IsS259.set_0 | apply IsS259.set_1) | exact HI211.out)); (case side2 => repeat (first | (with_reducible first | exact HB.out | apply below_alloc | apply pw_below_drewN | apply below_drew1 | refine below_set ?_ (IsS259.ge HI211.out)) | exact HB.out)); rintro e w11 ⟨rfl, hi, hb, hk⟩; refine ⟨_, rfl, ?_⟩; have n0_ := Aside0.mk (hb); have n1_ := Aside0.mk (hi); clear HB; clear HI211; have HB := n0_; have HI211 := n1_; clear n0_ n1_; (try clear hb); (try clear hb2); (try clear hk); (try clear hi)) | ((with_reducible refine gate_callee (f := 160) rfl ?_); refine goesL_ (some 20) rfl rfl Tryz.func160 (by kernel_rfl) rfl #[.pointer (some ⟨gb211, 0, none⟩), .int .i64 t218] rfl (by (try simp only [List.map_toArray, List.map_cons, List.map_nil]); first | done | rfl | (simp only [List.length_drop, List.length_take]; rfl) | (simp only [ByteArray.size_append, Int.natCast_add]; rfl) | (simp [ByteArray.size_append, Int.add_assoc]; done)) ?_; (with_reducible refine (sheet_reader_take.calls gb211 t219 t220 t218 t221 t222 t223 w _ ?side1 ?side2 A5.out).mono ?_); (case side1 => repeat (first | (with_reducible first | exact HI211.out | apply IsS259.alloc | apply IsS259.drewN | apply IsS259.drew | apply IsS259.set_0 | apply IsS259.set_1) | exact HI211.out)); (case side2 => repeat (first | (with_reducible first | exact HB.out | apply below_alloc | apply pw_below_drewN | apply below_drew1 | refine below_set ?_ (IsS259.ge HI211.out)) | exact HB.out)); rintro e w12 ⟨rfl, hi, hb, hk⟩; refine ⟨_, rfl, ?_⟩; have n0_ := Aside0.mk (hb); have n1_ := Aside0.mk (hi); clear HB; clear HI211; have HB := n0_; have HI211 := n1_; clear n0_ n1_; (try clear hb); (try clear hb2); (try clear hk); (try clear hi)) | ((with_reducible refine gate_callee (f := 146) rfl ?_); refine goesL_ (some 24) rfl rfl Tryz.func146 (by kernel_rfl) rfl #[.int .i64 t215, .string t221] rfl (by (try simp only [List.map_toArray, List.map_cons, List.map_nil]); first | done | rfl | (simp only [List.length_drop, List.length_take]; rfl) | (simp only [ByteArray.size_append, Int.natCast_add]; rfl) | (simp [ByteArray.size_append, Int.add_assoc]; done)) ?_; (with_reducible refine (sheet_Chain.calls t215 t221 t224 t225 _ A6.out).mono ?_); rintro e w13 ⟨rfl, hb⟩; refine ⟨_, rfl, ?_⟩; have n0_ := Aside0.mk (IsS259.below (by repeat (first | (with_reducible first | exact HI211.out | apply IsS259.alloc | apply IsS259.drewN | apply IsS259.drew | apply IsS259.set_0 | apply IsS259.set_1) | exact HI211.out)) hb); have n1_ := Aside0.mk (below_step (by repeat (first | (with_reducible first | exact HB.out | apply below_alloc | apply pw_below_drewN | apply below_drew1 | refine below_set ?_ (IsS259.ge HI211.out)) | exact HB.out)) hb); clear HI211; clear HB; have HI211 := n0_; have HB := n1_; clear n0_ n1_; (try clear hb); (try clear hb2); (try clear hk); (try clear hi)))
  (try simp only [Act.put, List.setIfInBounds_toArray, List.set_cons_zero, List.set_cons_succ])
  go_cut [39] (fun v39 wc => ∃ (kq : Nat) (x39_6 : Bool), v39 = .bool x39_6 ∧ Aside0 (sheet_Link.j0 kq t215 t221 x39_6 = some (r1, r2, r3)) ∧ Aside0 (kq ≤ k) ∧ Aside0 (Below w.heap.size w wc))
  case first =>
    have H := HC7.out
    clear HC7
    by_cases c14 : t223 = true
    · subst c14
      have H1 : (sheet_Link.j0 k t215 t221 true) = some (r1, r2, r3) := by rw [if_pos rfl] at H; exact H
      clear H
      have H := H1
      clear H1
      have H' := Aside0.mk H
      clear H
      obtain ⟨HGz15, hgz15⟩ := HI211.out
      have hcz15_0 := cellS259_0 HGz15
      have hcz15_1 := cellS259_1 HGz15
      have hfz15_0 := blk_frozen HGz15 0
      have hfz15_1 := blk_frozen HGz15 1
      clear HGz15 hgz15
      go_wp2
      go_meet
      case rel => exact ⟨_, (true), (by first | rfl | (simp; done) | (simp [*]; done)), H', ⟨by first | omega | exact Nat.le_refl _⟩, ⟨by repeat (first | (with_reducible first | exact HB.out | apply below_alloc | apply pw_below_drewN | apply below_drew1 | refine below_set ?_ (IsS259.ge HI211.out)) | exact HB.out)⟩⟩
    · replace c14 := Bool.eq_false_iff.mpr c14
      subst c14
      have H1 : (if t225 = true then (sheet_Link.j0 k t215 t221 (t224.toList != a0.toList)) else (sheet_Link.j0 k t215 t221 true)) = some (r1, r2, r3) := by rw [if_neg (show ¬ (false = true) by decide)] at H; exact H
      clear H
      have H := H1
      clear H1
      by_cases c16 : t225 = true
      · subst c16
        have H1 : (sheet_Link.j0 k t215 t221 (t224.toList != a0.toList)) = some (r1, r2, r3) := by rw [if_pos rfl] at H; exact H
        clear H
        have H := H1
        clear H1
        have H' := Aside0.mk H
        clear H
        obtain ⟨HGz17, hgz17⟩ := HI211.out
        have hcz17_0 := cellS259_0 HGz17
        have hcz17_1 := cellS259_1 HGz17
        have hfz17_0 := blk_frozen HGz17 0
        have hfz17_1 := blk_frozen HGz17 1
        clear HGz17 hgz17
        go_wp2
        go_meet
        case rel => exact ⟨_, ((t224.toList != a0.toList)), (by first | rfl | (simp; done) | (simp [*]; done)), H', ⟨by first | omega | exact Nat.le_refl _⟩, ⟨by repeat (first | (with_reducible first | exact HB.out | apply below_alloc | apply pw_below_drewN | apply below_drew1 | refine below_set ?_ (IsS259.ge HI211.out)) | exact HB.out)⟩⟩
      · replace c16 := Bool.eq_false_iff.mpr c16
        subst c16
        have H1 : (sheet_Link.j0 k t215 t221 true) = some (r1, r2, r3) := by rw [if_neg (show ¬ (false = true) by decide)] at H; exact H
        clear H
        have H := H1
        clear H1
        have H' := Aside0.mk H
        clear H
        obtain ⟨HGz18, hgz18⟩ := HI211.out
        have hcz18_0 := cellS259_0 HGz18
        have hcz18_1 := cellS259_1 HGz18
        have hfz18_0 := blk_frozen HGz18 0
        have hfz18_1 := blk_frozen HGz18 1
        clear HGz18 hgz18
        go_wp2
        go_meet
        case rel => exact ⟨_, (true), (by first | rfl | (simp; done) | (simp [*]; done)), H', ⟨by first | omega | exact Nat.le_refl _⟩, ⟨by repeat (first | (with_reducible first | exact HB.out | apply below_alloc | apply pw_below_drewN | apply below_drew1 | refine below_set ?_ (IsS259.ge HI211.out)) | exact HB.out)⟩⟩
  case rest =>
    clear HC7
    try clear c1
    try clear p2
    try clear c14
    try clear c16
    try clear c18
    try clear hcz15_0
    try clear hcz15_1
    try clear hcz17_0
    try clear hcz17_1
    try clear hcz18_0
    try clear hcz18_1
    try clear hfz15_0
    try clear hfz15_1
    try clear hfz17_0
    try clear hfz17_1
    try clear hfz18_0
    try clear hfz18_1
    obtain ⟨kq, x39_6, rfl, HA, HJ6, HB⟩ := hcut
    cases kq with
    | zero => exact absurd HA.out (by simp [sheet_Link.j0])
    | succ kj6 =>
      have H := HA.out
      clear HA
      simp only [sheet_Link.j0] at H
      by_cases c19 : x39_6 = true
      · subst c19
        have H1 : (some (0, (⟨#[]⟩ : ByteArray), false)) = some (r1, r2, r3) := by rw [if_pos rfl] at H; exact H
        clear H
        have H := H1
        clear H1
        simp only [Option.some.injEq, Prod.mk.injEq] at H
        obtain ⟨rfl, rfl, rfl⟩ := H
        go_wp2
        go_ret3
        exact ⟨by first | rfl | (simp [errW_none, errW_some] <;> rfl) | (simp [*, errW_none, errW_some] <;> rfl), by repeat (first | (with_reducible first | exact HB.out | apply below_alloc | apply pw_below_drewN | apply below_drew1) | exact HB.out)⟩
      · replace c19 := Bool.eq_false_iff.mpr c19
        subst c19
        have H1 : (some (t215, t221, true)) = some (r1, r2, r3) := by rw [if_neg (show ¬ (false = true) by decide)] at H; exact H
        clear H
        have H := H1
        clear H1
        simp only [Option.some.injEq, Prod.mk.injEq] at H
        obtain ⟨rfl, rfl, rfl⟩ := H
        go_wp2
        go_ret3
        exact ⟨by first | rfl | (simp [errW_none, errW_some] <;> rfl) | (simp [*, errW_none, errW_some] <;> rfl), by repeat (first | (with_reducible first | exact HB.out | apply below_alloc | apply pw_below_drewN | apply below_drew1) | exact HB.out)⟩
end Go.Proofs.YtdhaoaehboonpaaGreat.PRd
