/- PlatterOrder, walked. -/
import Derived.Test.YtcmldpacgbhfmaaP8
import Derived.BigQuiet
import Derived.Deep.RegionWith
namespace Go.Proofs.Ytcmldpacgbhfmaa.V
open Go.RowKit Go.Proofs.YtcmldpacgbhfmaaW.PrintWords Go.Proofs.YtcmldpacgbhfmaaW.PrintLast Go.Proofs.YtcmldpacgbhfmaaW.PrintMore
set_option linter.unusedVariables false
set_option linter.unusedSimpArgs false

section
variable (x y : ByteArray) (j k : Int)
def O1 : PS := stS (newS 1) 0 x
def O2 : PS := stS (O1 x) 0 y
def O3 : PS := faS (O2 x y) [j, k]
variable {x y : ByteArray} (hx : x.size = 128) (hy : y.size = 128)
include hx in
theorem O1w : WellS (O1 x) 1 1 := (WellS.new 1).st (by decide) (by decide) hx
include hx hy in
theorem O2w : WellS (O2 x y) 1 2 := (O1w hx).st (by decide) (by decide) hy
include hx hy in
theorem O3w : WellS (O3 x y j k) 1 0 := (O2w hx hy).fa _
theorem zer_extract' (m n : Nat) : (zer m).extract n m = zer (m - n) := by
  apply ByteArray.ext
  simp [zer]
theorem zer_extract (n : Nat) (h : n ≤ 128) : (zer 128).extract n 128 = zer (128 - n) := zer_extract' 128 n
theorem ext_all {F : ByteArray} (h : F.size = 128) : F.extract 0 128 = F := by rw [← h]; exact ByteArray.extract_zero_size
theorem bx_nil (x : ByteArray) (n : Nat) (h : n = 0) : x.extract 0 n = ByteArray.empty := by subst h; simp
end
theorem failedO (x y : ByteArray) (hx : x.size = 128) (hy : y.size = 128) (j k : Nat) (hj : j ≤ 128) (hk : k ≤ 128) :
    (failed (O2 x y) [(j : Int), (k : Int)] 2).1 = [y.extract 0 k ++ (x.extract 0 j ++ zer (128 - j)).extract k 128] := by
  have hf : (x.extract 0 j ++ zer (128 - j)).size = 128 := by rw [ByteArray.size_append, ByteArray.size_extract, zer_size]; omega
  have h1 : (failed (O2 x y) [(j : Int), (k : Int)] 1).1 = [x.extract 0 j ++ zer (128 - j)] := by
    have e0 : rd [(j : Int), (k : Int)] ((0 : Nat) : Int) = j := rfl
    by_cases hj0 : 0 < j
    · have e1 : (min (j : Int) 128).toNat = j := by omega
      rw [failed, if_pos ⟨by show 0 < 2; decide, by rw [e0]; omega⟩, e0, e1, ← zer_extract j hj]
      rfl
    · rw [failed, if_neg (fun h => hj0 (by have := h.2; rw [e0] at this; omega))]
      show [zer 128] = _
      obtain rfl : j = 0 := by omega
      rw [bx_nil _ _ rfl, ByteArray.empty_append]
  have e0 : rd [(j : Int), (k : Int)] ((1 : Nat) : Int) = k := rfl
  by_cases hk0 : 0 < k
  · have e1 : (min (k : Int) 128).toNat = k := by omega
    rw [failed, if_pos ⟨by show 1 < 2; decide, by rw [e0]; omega⟩, e0, e1, h1]
    show [y.extract 0 k ++ (x.extract 0 j ++ zer (128 - j)).extract k (x.extract 0 j ++ zer (128 - j)).size] = _
    rw [hf]
  · rw [failed, if_neg (fun h => hk0 (by have := h.2; rw [e0] at this; omega)), h1]
    obtain rfl : k = 0 := by omega
    rw [bx_nil _ _ rfl, ByteArray.empty_append]
    rw [ext_all hf]
set_option maxHeartbeats 8000000 in
set_option maxRecDepth 100000 in
theorem order_any (a b : ByteArray) (j k : Int) (wa : a.size ≤ 9223372036854775807) (wb : b.size ≤ 9223372036854775807) (wj : (Lit.int .i64 j).wf = true) (wk : (Lit.int .i64 k).wf = true) (w0 : World) :
    Calls Try.prog 5 #[.string a, .string b, .int .i64 j, .int .i64 k] w0 fun e w' => e = .returned (.bool true) ∧ Below w0.heap.size w0 w' := by
  have HB := Aside0.mk (Below.refl w0.heap.size w0)
  by_cases h0 : 200 < (a.size : Int)
  · have t0 := decide_eq_true h0
    have u0 : decide (200 < a.size) = true := decide_eq_true (by omega)
    clear h0
    go_enter Try.func5, Try.ntmps5
    go_wp2_with (first | (go_at_call 11; (with_reducible refine (alive_any _).mono ?_); rintro e w1 ⟨rfl, hb⟩; have n0_ := Aside0.mk (below_step HB.out hb); clear HB; have HB := n0_; clear n0_))
    go_ret
    exact ⟨by first | rfl | simp, HB.out⟩
  have t0 := decide_eq_false h0
  have u0 : decide (200 < a.size) = false := decide_eq_false (by omega)
  by_cases h1 : 200 < (b.size : Int)
  · have t1 := decide_eq_true h1
    have u1 : decide (200 < b.size) = true := decide_eq_true (by omega)
    clear h0
    clear h1
    go_enter Try.func5, Try.ntmps5
    go_wp2_with (first | (go_at_call 11; (with_reducible refine (alive_any _).mono ?_); rintro e w1 ⟨rfl, hb⟩; have n0_ := Aside0.mk (below_step HB.out hb); clear HB; have HB := n0_; clear n0_))
    go_ret
    exact ⟨by first | rfl | simp, HB.out⟩
  have t1 := decide_eq_false h1
  have u1 : decide (200 < b.size) = false := decide_eq_false (by omega)
  by_cases h2 : j < 0
  · have t2 := decide_eq_true h2
    clear h0
    clear h1
    clear h2
    go_enter Try.func5, Try.ntmps5
    go_wp2_with (first | (go_at_call 11; (with_reducible refine (alive_any _).mono ?_); rintro e w1 ⟨rfl, hb⟩; have n0_ := Aside0.mk (below_step HB.out hb); clear HB; have HB := n0_; clear n0_))
    go_ret
    exact ⟨by first | rfl | simp, HB.out⟩
  have t2 := decide_eq_false h2
  by_cases h3 : k < 0
  · have t3 := decide_eq_true h3
    clear h0
    clear h1
    clear h2
    clear h3
    go_enter Try.func5, Try.ntmps5
    go_wp2_with (first | (go_at_call 11; (with_reducible refine (alive_any _).mono ?_); rintro e w1 ⟨rfl, hb⟩; have n0_ := Aside0.mk (below_step HB.out hb); clear HB; have HB := n0_; clear n0_))
    go_ret
    exact ⟨by first | rfl | simp, HB.out⟩
  have t3 := decide_eq_false h3
  by_cases h4 : 128 < j
  · have t4 := decide_eq_true h4
    clear h0
    clear h1
    clear h2
    clear h3
    clear h4
    go_enter Try.func5, Try.ntmps5
    go_wp2_with (first | (go_at_call 11; (with_reducible refine (alive_any _).mono ?_); rintro e w1 ⟨rfl, hb⟩; have n0_ := Aside0.mk (below_step HB.out hb); clear HB; have HB := n0_; clear n0_))
    go_ret
    exact ⟨by first | rfl | simp, HB.out⟩
  have t4 := decide_eq_false h4
  by_cases h5 : 128 < k
  · have t5 := decide_eq_true h5
    clear h0
    clear h1
    clear h2
    clear h3
    clear h4
    clear h5
    go_enter Try.func5, Try.ntmps5
    go_wp2_with (first | (go_at_call 11; (with_reducible refine (alive_any _).mono ?_); rintro e w1 ⟨rfl, hb⟩; have n0_ := Aside0.mk (below_step HB.out hb); clear HB; have HB := n0_; clear n0_))
    go_ret
    exact ⟨by first | rfl | simp, HB.out⟩
  have t5 := decide_eq_false h5
  obtain ⟨j, rfl⟩ : ∃ n : Nat, j = n := ⟨j.toNat, by omega⟩
  obtain ⟨k, rfl⟩ : ∃ n : Nat, k = n := ⟨k.toNat, by omega⟩
  have hj : j ≤ 128 := by omega
  have hk : k ≤ 128 := by omega
  clear h0 h1 h2 h3 h4 h5
  have v4 : decide (128 < j) = false := decide_eq_false (by omega)
  have v5 : decide (128 < k) = false := decide_eq_false (by omega)
  obtain ⟨x, hx⟩ : ∃ x, x = fill a := ⟨_, rfl⟩
  obtain ⟨y, hy⟩ : ∃ y, y = fill b := ⟨_, rfl⟩
  obtain ⟨z, hz⟩ : ∃ z, z = zer (128 - j) := ⟨_, rfl⟩
  have sx : x.size = 128 := by rw [hx]; exact fill_size _
  have sy : y.size = 128 := by rw [hy]; exact fill_size _
  have sz : z.size = 128 - j := by rw [hz]; exact zer_size _
  obtain ⟨f, hf⟩ : ∃ f, f = x.extract 0 j ++ z := ⟨_, rfl⟩
  have sf : f.size = 128 := by rw [hf, ByteArray.size_append, ByteArray.size_extract, sz]; omega
  have hf1 : ∀ w g, IsQ w0 w g (newS 1) → Calls Try.prog 13 #[.string a] w fun e w' => e = .returned (.string x) ∧ IsQ w0 w' g (newS 1) := fun w g h => by rw [hx]; exact q_fill h _
  have hf2 : ∀ w g, IsQ w0 w g (newS 1) → Calls Try.prog 13 #[.string b] w fun e w' => e = .returned (.string y) ∧ IsQ w0 w' g (newS 1) := fun w g h => by rw [hy]; exact q_fill h _
  have hs1 : ∀ w g, IsQ w0 w g (newS 1) → Calls Try.prog 14 #[.pointer (some ⟨g, 0, none⟩), .int .i64 0, .string x] w fun e w' => e = .returned (.int .i64 0) ∧ IsQ w0 w' g (O1 x) ∧ Others w w' := fun w g h => q_st h (WellS.new 1) 0 _ (by decide) (by decide) sx (by decide) (by decide)
  have hs3 : ∀ w g, IsQ w0 w g (O1 x) → Calls Try.prog 14 #[.pointer (some ⟨g, 0, none⟩), .int .i64 0, .string y] w fun e w' => e = .returned (.int .i64 0) ∧ IsQ w0 w' g (O2 x y) ∧ Others w w' := fun w g h => q_st h (O1w sx) 0 _ (by decide) (by decide) sy (by decide) (by decide)
  have hn : ∀ w, Below w0.heap.size w0 w → Calls Try.prog 12 #[.int .i64 1] w fun e w' => ∃ g, e = .returned (.pointer (some ⟨g, 0, none⟩)) ∧ IsQ w0 w' g (newS 1) := fun w h => q_new w0 w h 1 (by decide) (by decide)
  have hld0 : loadE (O2 x y) 0 = (y, 0) := by
    unfold loadE
    rw [if_pos ((O2w sx sy).may (by decide) (by decide))]
    rfl
  have hld : loadE (O3 x y j k) 0 = (y.extract 0 k ++ f.extract k 128, 0) := by
    unfold loadE
    rw [if_pos ((O3w j k sx sy).may (by decide) (by decide))]
    show (((failed (O2 x y) [(j : Int), (k : Int)] 2).1.getD 0 ⟨#[]⟩, (0 : Int))) = _
    rw [failedO x y sx sy j k hj hk, hf, hz]; rfl
  have hs4 : ∀ w g, IsQ w0 w g (O2 x y) → Calls Try.prog 16 #[.pointer (some ⟨g, 0, none⟩), .slice (some ⟨w.heap.size, 0, none⟩) 2 2] (w.alloc (.cells #[.int .i64 j, .int .i64 k] 3)) fun e w' => e = .returned (.int .i64 (failed (O2 x y) [(j : Int), (k : Int)] 2).2) ∧ IsQ w0 w' g (O3 x y j k) := fun w g h => q_fa (h.alloc _) (O2w sx sy) (by decide) _ 2 [(j : Int), (k : Int)] 2 rfl (C_made (MapKept.heap_alloc w _).1 rfl (by decide) (by decide) (by decide) (by show 2 ≤ 1000000; decide)) rfl
  have hzz : ∀ w, Calls Try.prog 18 #[.int .i64 (IntKind.i64.wrap (128 - (j : Int)))] w fun e w' => e = .returned (.string z) ∧ Below w.heap.size w w' := by
    intro w
    have hc : IntKind.i64.wrap (128 - (j : Int)) = ((128 - j : Nat) : Int) := by rw [IntKind.wrap_i64]; omega
    rw [hc, hz]
    exact zeros_any _ (by omega) w
  have X0 := Aside0.mk hn
  have X1 := Aside0.mk hf1
  have X2 := Aside0.mk hf2
  have X4 := Aside0.mk hs1
  have X6 := Aside0.mk hs3
  have X7 := Aside0.mk hs4
  have X8 := Aside0.mk hld
  have X9 := Aside0.mk hld0
  have X10 := Aside0.mk hzz
  clear hn hf1 hf2 hs1 hs3 hs4 hld hld0 hzz hx hy hz
  have hf' : x.extract 0 j ++ z = f := hf.symm
  clear hf
  have p1 : (j ≤ 128) = True := eq_true hj
  have p2 : ((j : Int) ≤ 128) = True := eq_true (by omega)
  have p3 : (0 ≤ (j : Int)) = True := eq_true (by omega)
  have p4 : (k ≤ 128) = True := eq_true hk
  have p5 : ((k : Int) ≤ 128) = True := eq_true (by omega)
  have p6 : (0 ≤ (k : Int)) = True := eq_true (by omega)
  have p7 : (9223372036854775807 < (x.extract 0 j).size + z.size) = False := eq_false (by rw [ByteArray.size_extract, sz]; omega)
  go_enter Try.func5, Try.ntmps5
  go_upto_region 12 with (first
    | (go_at_call 11; (with_reducible refine (alive_any _).mono ?_); rintro e w1 ⟨rfl, hb⟩; have n0_ := Aside0.mk (below_step HB.out hb); clear HB; have HB := n0_; clear n0_)
    | (go_at_call 12; (with_reducible refine (X0.out _ HB.out).mono ?_); rintro e w1 ⟨g, rfl, hq⟩; have IPc := Aside0.mk hq; clear hq)
    | (go_at_call 13; (with_reducible first | refine (X1.out _ _ IPc.out).mono ?_ | refine (X2.out _ _ IPc.out).mono ?_); rintro e w1 ⟨rfl, hq⟩; clear IPc; have IPc := Aside0.mk hq; clear hq)
    | (go_at_call 14; (with_reducible first | refine (X4.out _ _ IPc.out).mono ?_ | refine (X6.out _ _ IPc.out).mono ?_); rintro e w1 ⟨rfl, hq, -⟩; clear IPc; have IPc := Aside0.mk hq; clear hq)
    | (go_at_call 16; go_must (with_reducible refine (X7.out _ _ IPc.out).mono ?_); rintro e w1 ⟨rfl, hq⟩; clear IPc; have IPc := Aside0.mk hq; clear hq)
    | (go_at_call 17; (with_reducible first | refine (q_load IPc.out 0 (by decide) X9.out).mono ?_ | refine (q_load IPc.out 0 (by decide) X8.out).mono ?_); rintro e w1 ⟨rfl, hq⟩; clear IPc; have IPc := Aside0.mk hq; clear hq))
  all_goals go_region_with (first | (go_at_call 18; go_must (refine (X10.out _).mono ?_); rintro e w1 ⟨rfl, hb⟩; have n0_ := Aside0.mk (IPc.out.drew.below hb); clear IPc; have IPc := n0_; clear n0_))
  all_goals go_upto_region 13 with (fail)
  all_goals go_quiet (fail)
  all_goals go_wp2
  all_goals go_ret
  all_goals exact ⟨by first | rfl | simp, by have HB := Aside0.mk IPc.out.1; repeat (first | (with_reducible first | exact HB.out | apply below_alloc | apply pw_below_drewN | apply below_drew1) | exact HB.out)⟩
end Go.Proofs.Ytcmldpacgbhfmaa.V
