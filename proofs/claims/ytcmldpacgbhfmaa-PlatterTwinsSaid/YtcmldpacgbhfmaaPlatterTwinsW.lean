/- PlatterTwins, walked. -/
import Derived.Test.YtcmldpacgbhfmaaP11
import Derived.BigQuiet
namespace Go.Proofs.Ytcmldpacgbhfmaa.V
open Go.RowKit Go.Proofs.YtcmldpacgbhfmaaW.PrintWords Go.Proofs.YtcmldpacgbhfmaaW.PrintLast Go.Proofs.YtcmldpacgbhfmaaW.PrintMore
set_option linter.unusedVariables false
set_option linter.unusedSimpArgs false

def pZ : ByteArray := fill ⟨#[]⟩
theorem pZ_zer : pZ = zer 128 := by decide +kernel
def Q1 (x : ByteArray) : PS := stS (newS 2) 0 x
def Q2 (x : ByteArray) (s : Bool) : PS := if s = true then seS (Q1 x) else Q1 x
def Q3 (x y : ByteArray) (s : Bool) : PS := stS (Q2 x s) 0 y
def Q4 (x y : ByteArray) (s : Bool) : PS := seS (Q3 x y s)
def qk (s : Bool) : Nat := if s = true then 0 else 1
section
variable {x y : ByteArray} (hx : x.size = 128) (hy : y.size = 128) (s : Bool)
include hx in
theorem Q1w : WellS (Q1 x) 2 1 := (WellS.new 2).st (by decide) (by decide) hx
include hx in
theorem Q2w : WellS (Q2 x s) 2 (qk s) := by
  cases s
  · exact Q1w hx
  · exact (Q1w hx).se
include hx hy in
theorem Q3w : WellS (Q3 x y s) 2 (qk s + 1) := (Q2w hx s).st (by decide) (by decide) hy
include hx hy in
theorem Q4w : WellS (Q4 x y s) 2 0 := (Q3w hx hy s).se
theorem Q2last : (Q2 x s).last = lastOf (Q2 x s).afl := by cases s <;> rfl
theorem Q2safe : (Q2 x s).safe = [if s = true then x else zer 128, zer 128] := by cases s <;> rfl
theorem qk_le : qk s ≤ 1 := by cases s <;> decide
include hx in
theorem twin_load : loadE (faS (Q2 x s) []) 0 = (if s = true then x else zer 128, 0) := by
  have hw := (Q2w hx s).fa []
  unfold loadE
  rw [if_pos (hw.may (by decide) (by decide))]
  show ((((failed (Q2 x s) [] (Q2 x s).afl.length).1.getD 0 ⟨#[]⟩, (0 : Int)))) = _
  rw [failed_nil, Q2safe]; rfl
include hx hy in
theorem own_load : loadE (Q4 x y s) 0 = (y, 0) := by
  unfold loadE
  rw [if_pos ((Q4w hx hy s).may (by decide) (by decide))]
  cases s <;> rfl
end
set_option maxHeartbeats 8000000 in
set_option maxRecDepth 100000 in
theorem twins_any (a b : ByteArray) (s : Bool) (wa : a.size ≤ 9223372036854775807) (wb : b.size ≤ 9223372036854775807) (w0 : World) :
    Calls Try.prog 9 #[.string a, .string b, .bool s] w0 fun e w' => e = .returned (.bool true) ∧ Below w0.heap.size w0 w' := by
  have HB := Aside0.mk (Below.refl w0.heap.size w0)
  by_cases h0 : 200 < (a.size : Int)
  · have t0 := decide_eq_true h0
    have u0 : decide (200 < a.size) = true := decide_eq_true (by omega)
    clear h0
    go_enter Try.func9, Try.ntmps9
    go_wp2_with (first | (go_at_call 11; (with_reducible refine (alive_any _).mono ?_); rintro e w1 ⟨rfl, hb⟩; have n0_ := Aside0.mk (below_step HB.out hb); clear HB; have HB := n0_; clear n0_))
    go_ret
    exact ⟨by first | rfl | simp, HB.out⟩
  have t0 := decide_eq_false h0
  have u0 : decide (200 < a.size) = false := decide_eq_false (by omega)
  by_cases h1 : 200 < (b.size : Int)
  · have t1 := decide_eq_true h1
    have u1 : decide (200 < b.size) = true := decide_eq_true (by omega)
    clear h0
    clear h1
    go_enter Try.func9, Try.ntmps9
    go_wp2_with (first | (go_at_call 11; (with_reducible refine (alive_any _).mono ?_); rintro e w1 ⟨rfl, hb⟩; have n0_ := Aside0.mk (below_step HB.out hb); clear HB; have HB := n0_; clear n0_))
    go_ret
    exact ⟨by first | rfl | simp, HB.out⟩
  have t1 := decide_eq_false h1
  have u1 : decide (200 < b.size) = false := decide_eq_false (by omega)
  clear h0 h1
  obtain ⟨x, hx⟩ : ∃ x, x = fill a := ⟨_, rfl⟩
  obtain ⟨y, hy⟩ : ∃ y, y = fill b := ⟨_, rfl⟩
  obtain ⟨z, hz⟩ : ∃ z, z = zer 128 := ⟨_, rfl⟩
  have sx : x.size = 128 := by rw [hx]; exact fill_size _
  have sy : y.size = 128 := by rw [hy]; exact fill_size _
  have SX := Aside0.mk sx
  have SY := Aside0.mk sy
  have hfx : ∀ w, Calls Try.prog 13 #[.string a] w fun e w' => e = .returned (.string x) ∧ Below w.heap.size w w' := fun w => by rw [hx]; exact fill_any a w
  have hfy : ∀ w, Calls Try.prog 13 #[.string b] w fun e w' => e = .returned (.string y) ∧ Below w.heap.size w w' := fun w => by rw [hy]; exact fill_any b w
  have hfz : ∀ w, Calls Try.prog 13 #[.string ⟨#[]⟩] w fun e w' => e = .returned (.string z) ∧ Below w.heap.size w w' := fun w => by
    have := fill_any ⟨#[]⟩ w
    rw [show fill ⟨#[]⟩ = z from pZ_zer.trans hz.symm] at this
    exact this
  have hn : ∀ w, Below w0.heap.size w0 w → Calls Try.prog 12 #[.int .i64 2] w fun e w' => ∃ g, e = .returned (.pointer (some ⟨g, 0, none⟩)) ∧ IsQ w0 w' g (newS 2) := fun w h => q_new w0 w h 2 (by decide) (by decide)
  have X0 := Aside0.mk hn
  have X1 := Aside0.mk hfx
  have X2 := Aside0.mk hfy
  have X3 := Aside0.mk hfz
  have ZZ := Aside0.mk hz
  clear hn hfx hfy hfz hx hy hz sx sy
  cases s with
  | false =>
    have LD : Aside0 (loadE (faS (Q2 x false) []) 0 = (z, 0)) := ⟨(twin_load SX.out false).trans (by simp [ZZ.out])⟩
    have LO := Aside0.mk (own_load SX.out SY.out false)
    have hq2 : ∀ w g, IsQ w0 w g (Q1 x) → IsQ w0 w g (Q1 x) := fun _ _ h => h
    clear hq2
    go_enter Try.func9, Try.ntmps9
    go_wp2_with (first
      | (go_at_call 11; (with_reducible refine (alive_any _).mono ?_); rintro e w1 ⟨rfl, hb⟩; have n0_ := Aside0.mk (below_step HB.out hb); clear HB; have HB := n0_; clear n0_)
      | (go_at_call 12; go_must (with_reducible refine (X0.out _ HB.out).mono ?_); rintro e w1 ⟨g, rfl, hq⟩; have IPc := Aside0.mk hq; clear hq)
      | (go_at_call 13; (first | (with_reducible refine (X1.out _).mono ?_) | (with_reducible refine (X2.out _).mono ?_) | (with_reducible refine (X3.out _).mono ?_)); rintro e w1 ⟨rfl, hb⟩; (first | (have n0_ := Aside0.mk (IJ.out.below hb); clear IJ; have IJ := n0_; clear n0_) | (have n0_ := Aside0.mk (IPc.out.below hb); clear IPc; have IPc := n0_; clear n0_)))
      | (go_at_call 14; (with_reducible first | refine (q_st IPc.out (WellS.new 2) 0 x (by decide) (by decide) SX.out (by decide) (by decide)).mono ?_ | refine (q2_st IJ.out (Q2w SX.out false) 0 y (by decide) (by decide) SY.out (by decide) (by decide)).mono ?_); (first | (rintro e w1 ⟨rfl, hq, -⟩; change IsQ w0 w1 g (Q2 x false) at hq; clear IPc; have IPc := Aside0.mk hq; clear hq) | (rintro e w1 ⟨rfl, hq⟩; change IsQ2 w0 w1 g (Q3 x y false) t (Q2 x false) at hq; clear IJ; have IJ := Aside0.mk hq; clear hq)))
      | (go_at_call 15; (first
          | (with_reducible refine (q2_se IJ.out (Q3w SX.out SY.out false) (by decide)).mono ?_); rintro e w1 ⟨rfl, hq⟩; change IsQ2 w0 w1 g (Q4 x y false) t (Q2 x false) at hq; clear IJ; have IJ := Aside0.mk hq; clear hq
          | (with_reducible refine (q_se IPc.out (Q1w SX.out) (by decide)).mono ?_); rintro e w1 ⟨rfl, hq⟩; change IsQ w0 w1 g (Q2 x true) at hq; clear IPc; have IPc := Aside0.mk hq; clear hq))
      | (go_at_call 22; go_must (with_reducible refine (q_twin IPc.out (Q2w SX.out false).pages (by rw [(Q2w SX.out false).len]; decide) (by rw [(Q2w SX.out false).few]; decide) (Q2last false)).mono ?_); rintro e w1 ⟨t, rfl, hq⟩; clear IPc; have IJ := Aside0.mk hq; clear hq)
      | (go_at_call 19; go_must (first | (with_reducible refine (q2_afloat IJ.out (n := (qk false : Nat)) (congrArg Nat.cast (Q2w SX.out false).few)).mono ?_) | (with_reducible refine (q2_afloat IJ.out.symm (n := (qk false : Nat)) (congrArg Nat.cast (Q2w SX.out false).few)).mono ?_)); rintro e w1 ⟨rfl, hq⟩; first | (have n0_ : Aside0 (IsQ2 w0 w1 g (Q2 x false) t (Q2 x false)) := ⟨hq⟩; clear IJ hq; have IJ := n0_; clear n0_) | (have n0_ : Aside0 (IsQ2 w0 w1 g (Q2 x false) t (Q2 x false)) := ⟨hq.symm⟩; clear IJ hq; have IJ := n0_; clear n0_))
      | (go_at_call 16; go_must (with_reducible refine (q2_fa_nil IJ.out.symm (Q2w SX.out false).pages (by rw [(Q2w SX.out false).few]; decide)).mono ?_); rintro e w1 ⟨rfl, hq⟩; have n0_ := Aside0.mk hq.symm; clear IJ hq; have IJ := n0_; clear n0_)
      | (go_at_call 17; first
          | ((with_reducible refine (q2_load IJ.out 0 (by decide) LO.out).mono ?_); rintro e w1 ⟨rfl, hq⟩; have n0_ := Aside0.mk hq; clear IJ hq; have IJ := n0_; clear n0_)
          | ((with_reducible refine (q2_load IJ.out.symm 0 (by decide) LD.out).mono ?_); rintro e w1 ⟨rfl, hq⟩; have n0_ := Aside0.mk hq.symm; clear IJ hq; have IJ := n0_; clear n0_))
      | (go_at_call 23; go_must (with_reducible refine (q2_pages IJ.out.symm (n := 2) (congrArg Nat.cast ((Q2w SX.out false).fa []).len)).mono ?_); rintro e w1 ⟨rfl, hq⟩; have n0_ := Aside0.mk hq.symm; clear IJ hq; have IJ := n0_; clear n0_))
    go_ret
    exact ⟨by first | rfl | simp, by have HB := Aside0.mk IJ.out.1; repeat (first | (with_reducible first | exact HB.out | apply below_alloc | apply pw_below_drewN | apply below_drew1) | exact HB.out)⟩
  | true =>
    have LD : Aside0 (loadE (faS (Q2 x true) []) 0 = (x, 0)) := ⟨(twin_load SX.out true).trans (by simp [ZZ.out])⟩
    have LO := Aside0.mk (own_load SX.out SY.out true)
    have hq2 : ∀ w g, IsQ w0 w g (Q1 x) → IsQ w0 w g (Q1 x) := fun _ _ h => h
    clear hq2
    go_enter Try.func9, Try.ntmps9
    go_wp2_with (first
      | (go_at_call 11; (with_reducible refine (alive_any _).mono ?_); rintro e w1 ⟨rfl, hb⟩; have n0_ := Aside0.mk (below_step HB.out hb); clear HB; have HB := n0_; clear n0_)
      | (go_at_call 12; go_must (with_reducible refine (X0.out _ HB.out).mono ?_); rintro e w1 ⟨g, rfl, hq⟩; have IPc := Aside0.mk hq; clear hq)
      | (go_at_call 13; (first | (with_reducible refine (X1.out _).mono ?_) | (with_reducible refine (X2.out _).mono ?_) | (with_reducible refine (X3.out _).mono ?_)); rintro e w1 ⟨rfl, hb⟩; (first | (have n0_ := Aside0.mk (IJ.out.below hb); clear IJ; have IJ := n0_; clear n0_) | (have n0_ := Aside0.mk (IPc.out.below hb); clear IPc; have IPc := n0_; clear n0_)))
      | (go_at_call 14; (with_reducible first | refine (q_st IPc.out (WellS.new 2) 0 x (by decide) (by decide) SX.out (by decide) (by decide)).mono ?_ | refine (q2_st IJ.out (Q2w SX.out true) 0 y (by decide) (by decide) SY.out (by decide) (by decide)).mono ?_); (first | (rintro e w1 ⟨rfl, hq, -⟩; change IsQ w0 w1 g (Q1 x) at hq; clear IPc; have IPc := Aside0.mk hq; clear hq) | (rintro e w1 ⟨rfl, hq⟩; change IsQ2 w0 w1 g (Q3 x y true) t (Q2 x true) at hq; clear IJ; have IJ := Aside0.mk hq; clear hq)))
      | (go_at_call 15; (first
          | (with_reducible refine (q2_se IJ.out (Q3w SX.out SY.out true) (by decide)).mono ?_); rintro e w1 ⟨rfl, hq⟩; change IsQ2 w0 w1 g (Q4 x y true) t (Q2 x true) at hq; clear IJ; have IJ := Aside0.mk hq; clear hq
          | (with_reducible refine (q_se IPc.out (Q1w SX.out) (by decide)).mono ?_); rintro e w1 ⟨rfl, hq⟩; change IsQ w0 w1 g (Q2 x true) at hq; clear IPc; have IPc := Aside0.mk hq; clear hq))
      | (go_at_call 22; go_must (with_reducible refine (q_twin IPc.out (Q2w SX.out true).pages (by rw [(Q2w SX.out true).len]; decide) (by rw [(Q2w SX.out true).few]; decide) (Q2last true)).mono ?_); rintro e w1 ⟨t, rfl, hq⟩; clear IPc; have IJ := Aside0.mk hq; clear hq)
      | (go_at_call 19; go_must (first | (with_reducible refine (q2_afloat IJ.out (n := (qk true : Nat)) (congrArg Nat.cast (Q2w SX.out true).few)).mono ?_) | (with_reducible refine (q2_afloat IJ.out.symm (n := (qk true : Nat)) (congrArg Nat.cast (Q2w SX.out true).few)).mono ?_)); rintro e w1 ⟨rfl, hq⟩; first | (have n0_ : Aside0 (IsQ2 w0 w1 g (Q2 x true) t (Q2 x true)) := ⟨hq⟩; clear IJ hq; have IJ := n0_; clear n0_) | (have n0_ : Aside0 (IsQ2 w0 w1 g (Q2 x true) t (Q2 x true)) := ⟨hq.symm⟩; clear IJ hq; have IJ := n0_; clear n0_))
      | (go_at_call 16; go_must (with_reducible refine (q2_fa_nil IJ.out.symm (Q2w SX.out true).pages (by rw [(Q2w SX.out true).few]; decide)).mono ?_); rintro e w1 ⟨rfl, hq⟩; have n0_ := Aside0.mk hq.symm; clear IJ hq; have IJ := n0_; clear n0_)
      | (go_at_call 17; first
          | ((with_reducible refine (q2_load IJ.out 0 (by decide) LO.out).mono ?_); rintro e w1 ⟨rfl, hq⟩; have n0_ := Aside0.mk hq; clear IJ hq; have IJ := n0_; clear n0_)
          | ((with_reducible refine (q2_load IJ.out.symm 0 (by decide) LD.out).mono ?_); rintro e w1 ⟨rfl, hq⟩; have n0_ := Aside0.mk hq.symm; clear IJ hq; have IJ := n0_; clear n0_))
      | (go_at_call 23; go_must (with_reducible refine (q2_pages IJ.out.symm (n := 2) (congrArg Nat.cast ((Q2w SX.out true).fa []).len)).mono ?_); rintro e w1 ⟨rfl, hq⟩; have n0_ := Aside0.mk hq.symm; clear IJ hq; have IJ := n0_; clear n0_))
    go_ret
    exact ⟨by first | rfl | simp, by have HB := Aside0.mk IJ.out.1; repeat (first | (with_reducible first | exact HB.out | apply below_alloc | apply pw_below_drewN | apply below_drew1) | exact HB.out)⟩
end Go.Proofs.Ytcmldpacgbhfmaa.V
