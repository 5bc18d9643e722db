/- PlatterTears, walked. -/
import Derived.Test.YtcmldpacgbhfmaaP8
import Derived.BigQuiet
namespace Go.Proofs.Ytcmldpacgbhfmaa.V
open Go.RowKit Go.Proofs.YtcmldpacgbhfmaaW.PrintWords Go.Proofs.YtcmldpacgbhfmaaW.PrintLast Go.Proofs.YtcmldpacgbhfmaaW.PrintMore
set_option linter.unusedVariables false
set_option linter.unusedSimpArgs false

section
variable (x y : ByteArray) (k : Int)
def T1 : PS := stS (newS 2) 1 x
def T2 : PS := seS (T1 x)
def T3 : PS := stS (T2 x) 1 y
def T4 : PS := faS (T3 x y) [k]
variable {x y : ByteArray} (hx : x.size = 128) (hy : y.size = 128)
include hx in
theorem T1w : WellS (T1 x) 2 1 := (WellS.new 2).st (by decide) (by decide) hx
include hx in
theorem T2w : WellS (T2 x) 2 0 := (T1w hx).se
include hx hy in
theorem T3w : WellS (T3 x y) 2 1 := (T2w hx).st (by decide) (by decide) hy
include hx hy in
theorem T4w : WellS (T4 x y k) 2 0 := (T3w hx hy).fa _
theorem T2safe : (T2 x).safe = [zer 128, x] := rfl
theorem extract_nil_append (n : Nat) (h : n = 0) : y.extract 0 n ++ x.extract n x.size = x := by
  subst h
  simp
end
set_option maxHeartbeats 8000000 in
set_option maxRecDepth 100000 in
theorem tears_any (a b : ByteArray) (k : Int) (wa : a.size ≤ 9223372036854775807) (wb : b.size ≤ 9223372036854775807) (wk : (Lit.int .i64 k).wf = true) (w0 : World) :
    Calls Try.prog 3 #[.string a, .string b, .int .i64 k] w0 fun e w' => e = .returned (.bool true) ∧ Below w0.heap.size w0 w' := by
  have HB := Aside0.mk (Below.refl w0.heap.size w0)
  by_cases ha : 200 < a.size
  · have d1 : decide (200 < (a.size : Int)) = true := decide_eq_true (by omega)
    have d2 : decide (200 < a.size) = true := decide_eq_true ha
    go_enter Try.func3, Try.ntmps3
    go_wp2_with (first | (go_at_call 11; (with_reducible refine (alive_any _).mono ?_); rintro e w1 ⟨rfl, hb⟩; have n0_ := Aside0.mk (below_step HB.out hb); clear HB; have HB := n0_; clear n0_))
    go_ret
    exact ⟨by first | rfl | simp, HB.out⟩
  by_cases hb : 200 < b.size
  · have d1 : decide (200 < (a.size : Int)) = false := decide_eq_false (by omega)
    have d2 : decide (200 < a.size) = false := decide_eq_false ha
    have d3 : decide (200 < (b.size : Int)) = true := decide_eq_true (by omega)
    have d4 : decide (200 < b.size) = true := decide_eq_true hb
    go_enter Try.func3, Try.ntmps3
    go_wp2_with (first | (go_at_call 11; (with_reducible refine (alive_any _).mono ?_); rintro e w1 ⟨rfl, hb⟩; have n0_ := Aside0.mk (below_step HB.out hb); clear HB; have HB := n0_; clear n0_))
    go_ret
    exact ⟨by first | rfl | simp, HB.out⟩
  have d1 : decide (200 < (a.size : Int)) = false := decide_eq_false (by omega)
  have d2 : decide (200 < a.size) = false := decide_eq_false ha
  have d3 : decide (200 < (b.size : Int)) = false := decide_eq_false (by omega)
  have d4 : decide (200 < b.size) = false := decide_eq_false hb
  clear ha hb
  obtain ⟨x, hx⟩ : ∃ x, x = fill a := ⟨_, rfl⟩
  obtain ⟨y, hy⟩ : ∃ y, y = fill b := ⟨_, rfl⟩
  have sx : x.size = 128 := by rw [hx]; exact fill_size _
  have sy : y.size = 128 := by rw [hy]; exact fill_size _
  have hf1 : ∀ w g, IsQ w0 w g (newS 2) → Calls Try.prog 13 #[.string a] w fun e w' => e = .returned (.string x) ∧ IsQ w0 w' g (newS 2) := fun w g h => by rw [hx]; exact q_fill h _
  have hf2 : ∀ w g, IsQ w0 w g (newS 2) → Calls Try.prog 13 #[.string b] w fun e w' => e = .returned (.string y) ∧ IsQ w0 w' g (newS 2) := fun w g h => by rw [hy]; exact q_fill h _
  have hs1 : ∀ w g, IsQ w0 w g (newS 2) → Calls Try.prog 14 #[.pointer (some ⟨g, 0, none⟩), .int .i64 1, .string x] w fun e w' => e = .returned (.int .i64 0) ∧ IsQ w0 w' g (T1 x) ∧ Others w w' := fun w g h => q_st h (WellS.new 2) 1 _ (by decide) (by decide) sx (by decide) (by decide)
  have hs2 : ∀ w g, IsQ w0 w g (T1 x) → Calls Try.prog 15 #[.pointer (some ⟨g, 0, none⟩)] w fun e w' => e = .returned (.int .i64 0) ∧ IsQ w0 w' g (T2 x) := fun w g h => q_se h (T1w sx) (by decide)
  have hs3 : ∀ w g, IsQ w0 w g (T2 x) → Calls Try.prog 14 #[.pointer (some ⟨g, 0, none⟩), .int .i64 1, .string y] w fun e w' => e = .returned (.int .i64 0) ∧ IsQ w0 w' g (T3 x y) ∧ Others w w' := fun w g h => q_st h (T2w sx) 1 _ (by decide) (by decide) sy (by decide) (by decide)
  have hn : ∀ w, Below w0.heap.size w0 w → Calls Try.prog 12 #[.int .i64 2] w fun e w' => ∃ g, e = .returned (.pointer (some ⟨g, 0, none⟩)) ∧ IsQ w0 w' g (newS 2) := fun w h => q_new w0 w h 2 (by decide) (by decide)
  obtain ⟨m, hm0, hm⟩ : ∃ m : Nat, m ≤ 128 ∧ ((if 128 < (if k < 0 then 0 else k) then 128 else (if k < 0 then 0 else k)) : Int) = m := ⟨((if 128 < (if k < 0 then 0 else k) then 128 else (if k < 0 then 0 else k)) : Int).toNat, by split <;> split <;> omega, by split <;> split <;> omega⟩
  have hm1 : (m : Int) = min (max k 0) 128 := by rw [← hm]; split <;> split <;> omega
  obtain ⟨c, hc⟩ : ∃ c : Int, c = if 0 < m then 1 else 0 := ⟨_, rfl⟩
  have hfl : (failed (T3 x y) [k] 1) = ([zer 128, y.extract 0 m ++ x.extract m x.size], c) := by
    have e0 : rd [k] ((0 : Nat) : Int) = k := rfl
    by_cases hk : 0 < k
    · have e1 : (min k 128).toNat = m := by omega
      rw [failed, if_pos ⟨Nat.zero_lt_one, by rw [e0]; exact hk⟩, e0, e1, hc, if_pos (by omega)]
      rfl
    · rw [failed, if_neg (fun h => hk (by have := h.2; rw [e0] at this; exact this)), hc, if_neg (by omega)]
      show ([zer 128, x], (0 : Int)) = _
      rw [extract_nil_append m (by omega)]
  have hld : loadE (T4 x y k) 1 = (y.extract 0 m ++ x.extract m x.size, 0) := by
    unfold loadE
    rw [if_pos ((T4w k sx sy).may (by decide) (by decide))]
    show (((failed (T3 x y) [k] 1).1.getD 1 ⟨#[]⟩, (0 : Int))) = _
    rw [hfl]; rfl
  have hs4 : ∀ w g, IsQ w0 w g (T3 x y) → Calls Try.prog 16 #[.pointer (some ⟨g, 0, none⟩), .slice (some ⟨w.heap.size, 0, none⟩) 1 1] (w.alloc (.cells #[.int .i64 k] 3)) fun e w' => e = .returned (.int .i64 c) ∧ IsQ w0 w' g (T4 x y k) := fun w g h => q_fa (h.alloc _) (T3w sx sy) (by decide) _ 1 [k] 1 rfl (C_made (MapKept.heap_alloc w _).1 rfl (by decide) (by decide) (by decide) (by show 1 ≤ 1000000; decide)) (by rw [hfl])
  rw [sx] at hld
  have hm2 : min (max k 0) 128 = (m : Int) := hm1.symm
  clear hm hm1
  have p1 : (m ≤ 128) = True := eq_true hm0
  have p2 : ((m : Int) ≤ 128) = True := eq_true (by omega)
  have p3 : (0 ≤ (m : Int)) = True := eq_true (by omega)
  have X0 := Aside0.mk hn
  have X1 := Aside0.mk hf1
  have X2 := Aside0.mk hf2
  have X4 := Aside0.mk hs1
  have X5 := Aside0.mk hs2
  have X6 := Aside0.mk hs3
  have X7 := Aside0.mk hs4
  have X8 := Aside0.mk hld
  clear hn hf1 hf2 hs1 hs2 hs3 hs4 hld hx hy hfl
  go_enter Try.func3, Try.ntmps3
  go_upto_region 14 with (first
    | (go_at_call 11; (with_reducible refine (alive_any _).mono ?_); rintro e w1 ⟨rfl, hb⟩; have n0_ := Aside0.mk (below_step HB.out hb); clear HB; have HB := n0_; clear n0_)
    | (go_at_call 12; (with_reducible refine (X0.out _ HB.out).mono ?_); rintro e w1 ⟨g, rfl, hq⟩; have IPc := Aside0.mk hq; clear hq)
    | (go_at_call 13; (with_reducible first | refine (X1.out _ _ IPc.out).mono ?_ | refine (X2.out _ _ IPc.out).mono ?_); rintro e w1 ⟨rfl, hq⟩; clear IPc; have IPc := Aside0.mk hq; clear hq)
    | (go_at_call 14; (with_reducible first | refine (X4.out _ _ IPc.out).mono ?_ | refine (X6.out _ _ IPc.out).mono ?_); rintro e w1 ⟨rfl, hq, -⟩; clear IPc; have IPc := Aside0.mk hq; clear hq)
    | (go_at_call 15; (with_reducible refine (X5.out _ _ IPc.out).mono ?_); rintro e w1 ⟨rfl, hq⟩; clear IPc; have IPc := Aside0.mk hq; clear hq)
    | (go_at_call 16; go_must (with_reducible refine (X7.out _ _ IPc.out).mono ?_); rintro e w1 ⟨rfl, hq⟩; clear IPc; have IPc := Aside0.mk hq; clear hq)
    | (go_at_call 17; (with_reducible refine (q_load IPc.out 1 (by decide) X8.out).mono ?_); rintro e w1 ⟨rfl, hq⟩; clear IPc; have IPc := Aside0.mk hq; clear hq))
  all_goals go_quiet (fail)
  all_goals go_wp2
  all_goals go_ret
  all_goals exact ⟨by first | rfl | simp, by have HB := Aside0.mk IPc.out.1; repeat (first | (with_reducible first | exact HB.out | apply below_alloc | apply pw_below_drewN | apply below_drew1) | exact HB.out)⟩
end Go.Proofs.Ytcmldpacgbhfmaa.V
