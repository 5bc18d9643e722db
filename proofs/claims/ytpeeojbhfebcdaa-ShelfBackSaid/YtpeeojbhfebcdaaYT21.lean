/- Of the texts that the row stands on, what it needs (part 21), put together by a program of this session. -/
import Derived.Test.YtpeeojbhfebcdaaYT16
import Derived.Test.YtpeeojbhfebcdaaYT20
import Derived.Test.YtpeeojbhfebcdaaYT18
namespace Go.Proofs.Ytpeeojbhfebcdaa.PRd
open Go.RowKit Go.Proofs.YtpeeojbhfebcdaaW.PrintWords Go.Proofs.YtpeeojbhfebcdaaW.PrintLast Go.Proofs.YtpeeojbhfebcdaaW.PrintMore
attribute [local go_sem] max2_int min2_int max_two min_two max_three min_three max_four min_four
set_option linter.unusedVariables false
set_option linter.unusedSimpArgs false
attribute [local go_sem high] eqA84
def sheet_Link.j0 : Nat → Int → ByteArray → Bool → Option (Int × ByteArray × Bool)
  | 0, _, _, _ => none
  | k + 1, x6, x7, x39 => if x39 = true then (some (0, (⟨#[]⟩ : ByteArray), false)) else (some (x6, x7, true))
def sheet_Link.f (k : Nat) (a0 : ByteArray) : Option (Int × ByteArray × Bool) := (sheet_reader_take.f a0 false 1).bind fun bt214 => ((sheet_reader_num.f k bt214.2.1 bt214.2.2 2).bind fun bt217 => ((sheet_reader_num.f k bt217.2.1 bt217.2.2 1).bind fun bt220 => ((sheet_reader_take.f bt220.2.1 bt220.2.2 bt220.1).bind fun bt223 => ((sheet_Chain.f bt217.1 bt223.1).bind fun bt226 => (if bt223.2.2 = true then (sheet_Link.j0 k bt217.1 bt223.1 true) else (if bt226.2 = true then (sheet_Link.j0 k bt217.1 bt223.1 (bt226.1.toList != a0.toList)) else (sheet_Link.j0 k bt217.1 bt223.1 true)))))))
set_option maxHeartbeats 8000000 in
set_option maxRecDepth 100000 in
theorem sheet_Link.calls (k : Nat) (a0 : ByteArray) (r1 : Int) (r2 : ByteArray) (r3 : Bool) (w : World) (h : sheet_Link.f k a0 = some (r1, r2, r3)) :
    Calls Try.prog 86 #[.string a0] w fun e w' => e = .returned (.tuple #[.int .i64 r1, .string r2, .bool r3]) ∧ Below w.heap.size w w' := by
  have hu137 := Try.underlying137
  have HB := Aside0.mk (Below.refl w.heap.size w)
  have H : ((sheet_reader_take.f a0 false 1).bind fun bt214 => ((sheet_reader_num.f k bt214.2.1 bt214.2.2 2).bind fun bt217 => ((sheet_reader_num.f k bt217.2.1 bt217.2.2 1).bind fun bt220 => ((sheet_reader_take.f bt220.2.1 bt220.2.2 bt220.1).bind fun bt223 => ((sheet_Chain.f bt217.1 bt223.1).bind fun bt226 => (if bt223.2.2 = true then (sheet_Link.j0 k bt217.1 bt223.1 true) else (if bt226.2 = true then (sheet_Link.j0 k bt217.1 bt223.1 (bt226.1.toList != a0.toList)) else (sheet_Link.j0 k bt217.1 bt223.1 true)))))))) = some (r1, r2, r3) := h
  clear h
  replace H := Option.bind_eq_some_iff.mp H
  obtain ⟨⟨t214, t215, t216⟩, A20, H⟩ := H
  replace H : ((sheet_reader_num.f k t215 t216 2).bind fun bt217 => ((sheet_reader_num.f k bt217.2.1 bt217.2.2 1).bind fun bt220 => ((sheet_reader_take.f bt220.2.1 bt220.2.2 bt220.1).bind fun bt223 => ((sheet_Chain.f bt217.1 bt223.1).bind fun bt226 => (if bt223.2.2 = true then (sheet_Link.j0 k bt217.1 bt223.1 true) else (if bt226.2 = true then (sheet_Link.j0 k bt217.1 bt223.1 (bt226.1.toList != a0.toList)) else (sheet_Link.j0 k bt217.1 bt223.1 true))))))) = some (r1, r2, r3) := H
  have A2 := Aside0.mk A20
  clear A20
  replace H := Option.bind_eq_some_iff.mp H
  obtain ⟨⟨t217, t218, t219⟩, A30, H⟩ := H
  replace H : ((sheet_reader_num.f k t218 t219 1).bind fun bt220 => ((sheet_reader_take.f bt220.2.1 bt220.2.2 bt220.1).bind fun bt223 => ((sheet_Chain.f t217 bt223.1).bind fun bt226 => (if bt223.2.2 = true then (sheet_Link.j0 k t217 bt223.1 true) else (if bt226.2 = true then (sheet_Link.j0 k t217 bt223.1 (bt226.1.toList != a0.toList)) else (sheet_Link.j0 k t217 bt223.1 true)))))) = some (r1, r2, r3) := H
  have A3 := Aside0.mk A30
  clear A30
  replace H := Option.bind_eq_some_iff.mp H
  obtain ⟨⟨t220, t221, t222⟩, A40, H⟩ := H
  replace H : ((sheet_reader_take.f t221 t222 t220).bind fun bt223 => ((sheet_Chain.f t217 bt223.1).bind fun bt226 => (if bt223.2.2 = true then (sheet_Link.j0 k t217 bt223.1 true) else (if bt226.2 = true then (sheet_Link.j0 k t217 bt223.1 (bt226.1.toList != a0.toList)) else (sheet_Link.j0 k t217 bt223.1 true))))) = some (r1, r2, r3) := H
  have A4 := Aside0.mk A40
  clear A40
  replace H := Option.bind_eq_some_iff.mp H
  obtain ⟨⟨t223, t224, t225⟩, A50, H⟩ := H
  replace H : ((sheet_Chain.f t217 t223).bind fun bt226 => (if t225 = true then (sheet_Link.j0 k t217 t223 true) else (if bt226.2 = true then (sheet_Link.j0 k t217 t223 (bt226.1.toList != a0.toList)) else (sheet_Link.j0 k t217 t223 true)))) = some (r1, r2, r3) := H
  have A5 := Aside0.mk A50
  clear A50
  replace H := Option.bind_eq_some_iff.mp H
  obtain ⟨⟨t226, t227⟩, A60, H⟩ := H
  replace H : (if t225 = true then (sheet_Link.j0 k t217 t223 true) else (if t227 = true then (sheet_Link.j0 k t217 t223 (t226.toList != a0.toList)) else (sheet_Link.j0 k t217 t223 true))) = some (r1, r2, r3) := H
  have A6 := Aside0.mk A60
  clear A60
  have HC7 := Aside0.mk H
  clear H
  go_enter Try.func86, Try.ntmps86
  go_upto_region 6 with (first | ((with_reducible refine gate_dst (N := 12) rfl ?_); refine box_event ?hg (N := 12) ?hd (cs := #[.string a0, .bool false]) (t := 137) ?hr ?_; (case hd => rfl); (case hg => rfl); (case hr => first | (go_simp; done) | (go_simp; rfl)); intro gb213 hg w8 hbox hb; have n0_ := Aside0.mk (below_step (by repeat (first | (with_reducible first | exact HB.out | apply below_alloc | apply pw_below_drewN | apply below_drew1) | exact HB.out)) hb); have n1_ := Aside0.mk ((show IsS137 w w8 gb213 a0 false from ⟨hbox, (by rw [hg]; exact (below_size (by repeat (first | (with_reducible first | exact HB.out | apply below_alloc | apply pw_below_drewN | apply below_drew1) | exact HB.out))) : w.heap.size ≤ gb213)⟩)); have n2_ := Aside0.mk ((by rw [hg]; exact (below_size (by repeat (first | (with_reducible first | exact HB.out | apply below_alloc | apply pw_below_drewN | apply below_drew1) | exact HB.out))) : w.heap.size ≤ gb213)); have n3_ := Aside0.mk ((by rw [hg]; exact (below_size (by repeat (first | (with_reducible first | exact HB.out | apply below_alloc | apply pw_below_drewN | apply below_drew1) | exact HB.out))) : w.heap.size ≤ gb213)); clear HB; have HB := n0_; have HI213 := n1_; have GW213 := n2_; have GE213 := n3_; clear n0_ n1_ n2_ n3_; clear hb hbox hg) | ((with_reducible refine gate_callee (f := 71) rfl ?_); refine goesL_ (some 14) rfl rfl Try.func71 (by kernel_rfl) rfl #[.pointer (some ⟨gb213, 0, none⟩), .int .i64 1] rfl (by (try simp only [List.map_toArray, List.map_cons, List.map_nil]); first | done | rfl | (simp only [List.length_drop, List.length_take]; rfl) | (simp only [ByteArray.size_append, Int.natCast_add]; rfl) | (simp [ByteArray.size_append, Int.add_assoc]; done)) ?_; (with_reducible refine (sheet_reader_take.calls gb213 a0 false 1 t214 t215 t216 w _ ?side1 ?side2 A2.out).mono ?_); (case side1 => repeat (first | (with_reducible first | exact HI213.out | apply IsS137.alloc | apply IsS137.drewN | apply IsS137.drew | apply IsS137.set_0 | apply IsS137.set_1) | exact HI213.out)); (case side2 => repeat (first | (with_reducible first | exact HB.out | apply below_alloc | apply pw_below_drewN | apply below_drew1 | refine below_set ?_ (IsS137.ge HI213.out)) | exact HB.out)); rintro e w9 ⟨rfl, hi, hb, hk⟩; refine ⟨_, rfl, ?_⟩; have n0_ := Aside0.mk (hb); have n1_ := Aside0.mk (hi); clear HB; clear HI213; have HB := n0_; have HI213 := n1_; clear n0_ n1_; (try clear hb); (try clear hb2); (try clear hk); (try clear hi)) | ((with_reducible refine gate_callee (f := 72) rfl ?_); refine goesL_ (some 16) rfl rfl Try.func72 (by kernel_rfl) rfl #[.pointer (some ⟨gb213, 0, none⟩), .int .i64 2] rfl (by (try simp only [List.map_toArray, List.map_cons, List.map_nil]); first | done | rfl | (simp only [List.length_drop, List.length_take]; rfl) | (simp only [ByteArray.size_append, Int.natCast_add]; rfl) | (simp [ByteArray.size_append, Int.add_assoc]; done)) ?_; (with_reducible refine (sheet_reader_num.calls k gb213 t215 t216 2 t217 t218 t219 w _ ?side1 ?side2 A3.out).mono ?_); (case side1 => repeat (first | (with_reducible first | exact HI213.out | apply IsS137.alloc | apply IsS137.drewN | apply IsS137.drew | apply IsS137.set_0 | apply IsS137.set_1) | exact HI213.out)); (case side2 => repeat (first | (with_reducible first | exact HB.out | apply below_alloc | apply pw_below_drewN | apply below_drew1 | refine below_set ?_ (IsS137.ge HI213.out)) | exact HB.out)); rintro e w10 ⟨rfl, hi, hb, hk⟩; refine ⟨_, rfl, ?_⟩; have n0_ := Aside0.mk (hb); have n1_ := Aside0.mk (hi); clear HB; clear HI213; have HB := n0_; have HI213 := n1_; clear n0_ n1_; (try clear hb); (try clear hb2); (try clear hk); (try clear hi)) | ((with_reducible refine gate_callee (f := 72) rfl ?_); refine goesL_ (some 19) rfl rfl Try.func72 (by kernel_rfl) rfl #[.pointer (some ⟨gb213, 0, none⟩), .int .i64 1] rfl (by (try simp only [List.map_toArray, List.map_cons, List.map_nil]); first | done | rfl | (simp only [List.length_drop, List.length_take]; rfl) | (simp only [ByteArray.size_append, Int.natCast_add]; rfl) | (simp [ByteArray.size_append, Int.add_assoc]; done)) ?_; (with_reducible refine (sheet_reader_num.calls k gb213 t218 t219 1 t220 t221 t222 w _ ?side1 ?side2 A4.out).mono ?_); (case side1 => repeat (first | (with_reducible first | exact HI213.out | apply IsS137.alloc | apply IsS137.drewN | apply IsS137.drew | apply IsS137.set_0 | apply IsS137.set_1) | exact HI213.out)); (case side2 => repeat (first | (with_reducible first | exact HB.out | apply below_alloc | apply pw_below_drewN | apply below_drew1 | refine below_set ?_ (IsS137.ge HI213.out)) | exact HB.out)); rintro e w11 ⟨rfl, hi, hb, hk⟩; refine ⟨_, rfl, ?_⟩; have n0_ := Aside0.mk (hb); have n1_ := Aside0.mk (hi); clear HB; clear HI213; have HB := n0_; have HI213 := n1_; clear n0_ n1_; (try clear hb); (try clear hb2); (try clear hk); (try clear hi)) | ((with_reducible refine gate_callee (f := 71) rfl ?_); refine goesL_ (some 20) rfl rfl Try.func71 (by kernel_rfl) rfl #[.pointer (some ⟨gb213, 0, none⟩), .int .i64 t220] rfl (by (try simp only [List.map_toArray, List.map_cons, List.map_nil]); first | done | rfl | (simp only [List.length_drop, List.length_take]; rfl) | (simp only [ByteArray.size_append, Int.natCast_add]; rfl) | (simp [ByteArray.size_append, Int.add_assoc]; done)) ?_; (with_reducible refine (sheet_reader_take.calls gb213 t221 t222 t220 t223 t224 t225 w _ ?side1 ?side2 A5.out).mono ?_); (case side1 => repeat (first | (with_reducible first | exact HI213.out | apply IsS137.alloc | apply IsS137.drewN | apply IsS137.drew | apply IsS137.set_0 | apply IsS137.set_1) | exact HI213.out)); (case side2 => repeat (first | (with_reducible first | exact HB.out | apply below_alloc | apply pw_below_drewN | apply below_drew1 | refine below_set ?_ (IsS137.ge HI213.out)) | exact HB.out)); rintro e w12 ⟨rfl, hi, hb, hk⟩; refine ⟨_, rfl, ?_⟩; have n0_ := Aside0.mk (hb); have n1_ := Aside0.mk (hi); clear HB; clear HI213; have HB := n0_; have HI213 := n1_; clear n0_ n1_; (try clear hb); (try clear hb2); (try clear hk); (try clear hi)) | ((with_reducible refine gate_callee (f := 55) rfl ?_); refine goesL_ (some 24) rfl rfl Try.func55 (by kernel_rfl) rfl #[.int .i64 t217, .string t223] rfl (by (try simp only [List.map_toArray, List.map_cons, List.map_nil]); first | done | rfl | (simp only [List.length_drop, List.length_take]; rfl) | (simp only [ByteArray.size_append, Int.natCast_add]; rfl) | (simp [ByteArray.size_append, Int.add_assoc]; done)) ?_; (with_reducible refine (sheet_Chain.calls t217 t223 t226 t227 _ A6.out).mono ?_); rintro e w13 ⟨rfl, hb⟩; refine ⟨_, rfl, ?_⟩; have n0_ := Aside0.mk (IsS137.below (by repeat (first | (with_reducible first | exact HI213.out | apply IsS137.alloc | apply IsS137.drewN | apply IsS137.drew | apply IsS137.set_0 | apply IsS137.set_1) | exact HI213.out)) hb); have n1_ := Aside0.mk (below_step (by repeat (first | (with_reducible first | exact HB.out | apply below_alloc | apply pw_below_drewN | apply below_drew1 | refine below_set ?_ (IsS137.ge HI213.out)) | exact HB.out)) hb); clear HI213; clear HB; have HI213 := n0_; have HB := n1_; clear n0_ n1_; (try clear hb); (try clear hb2); (try clear hk); (try clear hi)))
  (try simp only [Act.put, List.setIfInBounds_toArray, List.set_cons_zero, List.set_cons_succ])
  go_cut [39] (fun v39 wc => ∃ (kq : Nat) (x39_6 : Bool), v39 = .bool x39_6 ∧ Aside0 (sheet_Link.j0 kq t217 t223 x39_6 = some (r1, r2, r3)) ∧ Aside0 (kq ≤ k) ∧ Aside0 (Below w.heap.size w wc))
  case first =>
    have H := HC7.out
    clear HC7
    by_cases c14 : t225 = true
    · subst c14
      have H1 : (sheet_Link.j0 k t217 t223 true) = some (r1, r2, r3) := by rw [if_pos rfl] at H; exact H
      clear H
      have H := H1
      clear H1
      have H' := Aside0.mk H
      clear H
      obtain ⟨HGz15, hgz15⟩ := HI213.out
      have hcz15_0 := cellS137_0 HGz15
      have hcz15_1 := cellS137_1 HGz15
      have hfz15_0 := blk_frozen HGz15 0
      have hfz15_1 := blk_frozen HGz15 1
      clear HGz15 hgz15
      go_wp2
      go_meet
      case rel => exact ⟨_, (true), (by first | rfl | (simp; done) | (simp [*]; done)), H', ⟨by first | omega | exact Nat.le_refl _⟩, ⟨by repeat (first | (with_reducible first | exact HB.out | apply below_alloc | apply pw_below_drewN | apply below_drew1 | refine below_set ?_ (IsS137.ge HI213.out)) | exact HB.out)⟩⟩
    · replace c14 := Bool.eq_false_iff.mpr c14
      subst c14
      have H1 : (if t227 = true then (sheet_Link.j0 k t217 t223 (t226.toList != a0.toList)) else (sheet_Link.j0 k t217 t223 true)) = some (r1, r2, r3) := by rw [if_neg (show ¬ (false = true) by decide)] at H; exact H
      clear H
      have H := H1
      clear H1
      by_cases c16 : t227 = true
      · subst c16
        have H1 : (sheet_Link.j0 k t217 t223 (t226.toList != a0.toList)) = some (r1, r2, r3) := by rw [if_pos rfl] at H; exact H
        clear H
        have H := H1
        clear H1
        have H' := Aside0.mk H
        clear H
        obtain ⟨HGz17, hgz17⟩ := HI213.out
        have hcz17_0 := cellS137_0 HGz17
        have hcz17_1 := cellS137_1 HGz17
        have hfz17_0 := blk_frozen HGz17 0
        have hfz17_1 := blk_frozen HGz17 1
        clear HGz17 hgz17
        go_wp2
        go_meet
        case rel => exact ⟨_, ((t226.toList != a0.toList)), (by first | rfl | (simp; done) | (simp [*]; done)), H', ⟨by first | omega | exact Nat.le_refl _⟩, ⟨by repeat (first | (with_reducible first | exact HB.out | apply below_alloc | apply pw_below_drewN | apply below_drew1 | refine below_set ?_ (IsS137.ge HI213.out)) | exact HB.out)⟩⟩
      · replace c16 := Bool.eq_false_iff.mpr c16
        subst c16
        have H1 : (sheet_Link.j0 k t217 t223 true) = some (r1, r2, r3) := by rw [if_neg (show ¬ (false = true) by decide)] at H; exact H
        clear H
        have H := H1
        clear H1
        have H' := Aside0.mk H
        clear H
        obtain ⟨HGz18, hgz18⟩ := HI213.out
        have hcz18_0 := cellS137_0 HGz18
        have hcz18_1 := cellS137_1 HGz18
        have hfz18_0 := blk_frozen HGz18 0
        have hfz18_1 := blk_frozen HGz18 1
        clear HGz18 hgz18
        go_wp2
        go_meet
        case rel => exact ⟨_, (true), (by first | rfl | (simp; done) | (simp [*]; done)), H', ⟨by first | omega | exact Nat.le_refl _⟩, ⟨by repeat (first | (with_reducible first | exact HB.out | apply below_alloc | apply pw_below_drewN | apply below_drew1 | refine below_set ?_ (IsS137.ge HI213.out)) | exact HB.out)⟩⟩
  case rest =>
    clear HC7
    try clear c1
    try clear p2
    try clear c5
    try clear c7
    try clear c8
    try clear c14
    try clear c16
    try clear hcz15_0
    try clear hcz15_1
    try clear hcz17_0
    try clear hcz17_1
    try clear hcz18_0
    try clear hcz18_1
    try clear hfz15_0
    try clear hfz15_1
    try clear hfz17_0
    try clear hfz17_1
    try clear hfz18_0
    try clear hfz18_1
    obtain ⟨kq, x39_6, rfl, HA, HJ6, HB⟩ := hcut
    cases kq with
    | zero => exact absurd HA.out (by simp [sheet_Link.j0])
    | succ kj6 =>
      have H := HA.out
      clear HA
      simp only [sheet_Link.j0] at H
      by_cases c19 : x39_6 = true
      · subst c19
        have H1 : (some (0, (⟨#[]⟩ : ByteArray), false)) = some (r1, r2, r3) := by rw [if_pos rfl] at H; exact H
        clear H
        have H := H1
        clear H1
        simp only [Option.some.injEq, Prod.mk.injEq] at H
        obtain ⟨rfl, rfl, rfl⟩ := H
        go_wp2
        go_ret3
        exact ⟨by first | rfl | (simp [errW_none, errW_some] <;> rfl) | (simp [*, errW_none, errW_some] <;> rfl), by repeat (first | (with_reducible first | exact HB.out | apply below_alloc | apply pw_below_drewN | apply below_drew1) | exact HB.out)⟩
      · replace c19 := Bool.eq_false_iff.mpr c19
        subst c19
        have H1 : (some (t217, t223, true)) = some (r1, r2, r3) := by rw [if_neg (show ¬ (false = true) by decide)] at H; exact H
        clear H
        have H := H1
        clear H1
        simp only [Option.some.injEq, Prod.mk.injEq] at H
        obtain ⟨rfl, rfl, rfl⟩ := H
        go_wp2
        go_ret3
        exact ⟨by first | rfl | (simp [errW_none, errW_some] <;> rfl) | (simp [*, errW_none, errW_some] <;> rfl), by repeat (first | (with_reducible first | exact HB.out | apply below_alloc | apply pw_below_drewN | apply below_drew1) | exact HB.out)⟩
end Go.Proofs.Ytpeeojbhfebcdaa.PRd
