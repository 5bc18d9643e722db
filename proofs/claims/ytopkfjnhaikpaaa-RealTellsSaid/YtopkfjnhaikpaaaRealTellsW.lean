/- The walk of RealTells. -/
import Derived.Test.YtopkfjnhaikpaaaRealBytesW
import Derived.Test.YtopkfjnhaikpaaaGA
namespace Go.Proofs.Ytopkfjnhaikpaaa
open Go.Fl
open Go.RowKit Go.Proofs.YtopkfjnhaikpaaaW.PrintWords Go.Proofs.YtopkfjnhaikpaaaW.PrintLast Go.Proofs.YtopkfjnhaikpaaaW.PrintMore
set_option linter.unusedVariables false
set_option linter.unusedSimpArgs false

theorem tells_long (a0 a1 a2 : Int) (b : ByteArray) (w : World) (h : 20 < (b.size : Int)) :
    Calls Try.prog 14 #[.int .u64 a0, .int .u64 a1, .int .i64 a2, .string b] w fun e w' => e = .returned (.bool true) ∧ Below w.heap.size w w' := by
  go_enter Try.func14, Try.ntmps14
  go_wp2_with (first | (go_at_call 15; refine (alive_any _).mono ?_; rintro e w' ⟨rfl, rfl⟩))
  all_goals (go_ret; exact ⟨rfl, Below.refl _ _⟩)

theorem lit_string (wr : World) (v : Int) (h : 0 ≤ v ∧ v < 256) : (convert 51 9 (.slice (some ⟨wr.heap.size, 0, none⟩) 1 1)).run Try.prog (wr.alloc (.cells #[.int .u8 v] 5)) = .ok (.string (strOfNums [v])) (wr.alloc (.cells #[.int .u8 v] 5)) := by
  refine run_convert_bytes_arg _ 51 5 Try.underlying51 Try.underlying5 wr.heap.size 0 1 1 [v] rfl (fun i hi => ?_) 9 Try.underlying9
  have : i = 0 := by omega
  subst this
  exact World.cell?_alloc_at _ _ _ _ rfl

theorem str_cat (l m : List Int) : strOfNums l ++ strOfNums m = strOfNums (l ++ m) := by
  apply ByteArray.ext
  simp [strOfNums]

theorem tells_core (x y : Nat) (a : Int) (b : ByteArray) (n e oA cA : Int) (r p q : Nat) (is : Bool) (w : World) (hb : ¬ 20 < (b.size : Int)) (sa : Bool)
    (G : Hid (∀ w, Calls Try.prog 16 #[.float .f64 x] w fun e' w' => e' = .returned (.tuple #[.int .i64 n, .int .i64 e]) ∧ w = w'))
    (RG : Hid (∀ w, Calls Try.prog 29 #[.float .f64 x] w fun e' w' => e' = .returned (.tuple #[.int .i64 n, .int .i64 e]) ∧ Below w.heap.size w w'))
    (B : Hid (∀ w, Calls Try.prog 26 #[.float .f64 x] w fun e w' => e = .returned (.string (strOfNums (byL x 8))) ∧ Below w.heap.size w w'))
    (R1 : Hid (∀ w, Calls Try.prog 27 #[.string (strOfNums (byL x 8))] w fun e w' => e = .returned (.tuple #[.float .f64 x, .bool true]) ∧ w = w'))
    (R2 : Hid (∀ w, Calls Try.prog 27 #[.string b] w fun e w' => e = .returned (.tuple #[.float .f64 r, .bool is]) ∧ w = w'))
    (B2 : Hid (is = true → ∀ w, Calls Try.prog 26 #[.float .f64 r] w fun e w' => e = .returned (.string b) ∧ Below w.heap.size w w'))
    (Pu : Hid (∀ w, Calls Try.prog 17 #[.int .i64 a] w fun e w' => e = .returned (.float .f64 p) ∧ w = w'))
    (C1 : Hid (∀ w, Calls Try.prog 21 #[.float .f64 x] w fun e w' => e = .returned (.int .i64 cA) ∧ w = w'))
    (C2 : Hid (∀ w, Calls Try.prog 30 #[.float .f64 x] w fun e w' => e = .returned (.int .i64 cA) ∧ w = w'))
    (O1 : Hid (∀ w, Calls Try.prog 19 #[.float .f64 x, .float .f64 y] w fun e w' => e = .returned (.int .i64 oA) ∧ w = w'))
    (O2 : Hid (∀ w, Calls Try.prog 31 #[.float .f64 x, .float .f64 y] w fun e w' => e = .returned (.int .i64 oA) ∧ w = w'))
    (S : Hid (∀ w, Calls Try.prog 25 #[.float .f64 x, .float .f64 y] w fun e w' => e = .returned (.bool sa) ∧ w = w'))
    (hsa : ((x : Int) == (y : Int)) = sa) (his : ((b.size : Int) == 8) = is) (hr0 : is = false → r = 0)
    (hc : ∀ w, (convert 22 27 (.int .i64 a)).run Try.prog w = .ok (.float .f64 q) w)
    (hd : ∀ w, (binOp .quo 27 (.float .f64 q) (.float .f64 4751297606875873280)).run Try.prog w = .ok (.float .f64 p) w) :
    Calls Try.prog 14 #[.int .u64 (x : Int), .int .u64 (y : Int), .int .i64 a, .string b] w fun e w' => e = .returned (.bool true) ∧ Below w.heap.size w w' := by
  go_enter Try.func14, Try.ntmps14
  go_wp2_with (first | (go_at_call 15; refine (alive_any _).mono ?_; rintro e w' ⟨rfl, rfl⟩) | (go_at_call 16; refine (G.out _).mono ?_; rintro e w' ⟨rfl, rfl⟩) | (go_at_call 29; refine (RG.out _).mono ?_; rintro e w' ⟨rfl, HB1⟩) | (go_at_call 26; refine (B.out _).mono ?_; rintro e w' ⟨rfl, HB2⟩))
  have HB := Aside0.mk (HB1.trans (HB2.mono HB1.size))
  clear HB1 HB2
  go_loopw [16, 17] (fun v16 v17 w' => ∃ j : Nat, j ≤ 8 ∧ v17 = .int .i64 (56 - 8 * (j : Int)) ∧ v16 = .string (strOfNums (byL x j)) ∧ Aside0 (Below w.heap.size w w')) (fun _ v17 _ => (intOf v17 + 8).toNat)
  case atStart => exact ⟨0, by decide, rfl, rfl, HB⟩
  case round =>
    obtain ⟨j, hj, rfl, rfl, HB⟩ := hrel
    by_cases h8 : j = 8
    · subst h8
      generalize strOfNums (byL x 8) = s at *
      cases hi : is
      · obtain rfl := hr0 hi
        rw [hi] at his
        subst hi
        clear hr0
        go_wp2_with (first | (go_at_call 27; with_reducible refine (R1.out _).mono ?_; rintro e w' ⟨rfl, rfl⟩) | (go_at_call 27; with_reducible refine (R2.out _).mono ?_; rintro e w' ⟨rfl, rfl⟩) | (go_at_call 17; refine (Pu.out _).mono ?_; rintro e w' ⟨rfl, rfl⟩) | (go_at_call 21; refine (C1.out _).mono ?_; rintro e w' ⟨rfl, rfl⟩) | (go_at_call 30; refine (C2.out _).mono ?_; rintro e w' ⟨rfl, rfl⟩) | (go_at_call 19; refine (O1.out _).mono ?_; rintro e w' ⟨rfl, rfl⟩) | (go_at_call 31; refine (O2.out _).mono ?_; rintro e w' ⟨rfl, rfl⟩) | (go_at_call 25; refine (S.out _).mono ?_; rintro e w' ⟨rfl, rfl⟩))
        go_ways
        all_goals (go_ret; exact ⟨rfl, HB.out⟩)
      · have B3 := Lib.hid (B2.out hi)
        subst hi
        clear hr0 B2
        go_wp2_with (first | (go_at_call 27; with_reducible refine (R1.out _).mono ?_; rintro e w' ⟨rfl, rfl⟩) | (go_at_call 27; with_reducible refine (R2.out _).mono ?_; rintro e w' ⟨rfl, rfl⟩) | (go_at_call 26; refine (B3.out _).mono ?_; rintro e w' ⟨rfl, HB3⟩) | (go_at_call 17; refine (Pu.out _).mono ?_; rintro e w' ⟨rfl, rfl⟩) | (go_at_call 21; refine (C1.out _).mono ?_; rintro e w' ⟨rfl, rfl⟩) | (go_at_call 30; refine (C2.out _).mono ?_; rintro e w' ⟨rfl, rfl⟩) | (go_at_call 19; refine (O1.out _).mono ?_; rintro e w' ⟨rfl, rfl⟩) | (go_at_call 31; refine (O2.out _).mono ?_; rintro e w' ⟨rfl, rfl⟩) | (go_at_call 25; refine (S.out _).mono ?_; rintro e w' ⟨rfl, rfl⟩))
        go_ways
        all_goals (go_ret; exact ⟨rfl, HB.out.trans (HB3.mono HB.out.size)⟩)
    · have hv : 0 ≤ byI x (56 - 8 * j) ∧ byI x (56 - 8 * j) < 256 := by unfold byI; omega
      have hcv := fun wr => lit_string wr _ hv
      have hsn := byL_snoc x j (by omega)
      have hsz : ¬ 9223372036854775807 < (strOfNums (byL x j)).size + (strOfNums [byI x (56 - 8 * j)]).size := by
        rw [strOfNums_size, strOfNums_size, byL_length]; simp; omega
      have hcat := str_cat (byL x j) [byI x (56 - 8 * j)]
      rw [← hsn] at hcat
      unfold byI at hcv hsz hcat
      have HC := Lib.hid hcat
      clear hv hsn hcat
      go_wp2
      exact ⟨⟨j + 1, by omega, by rw [Value.int.injEq]; exact ⟨rfl, by omega⟩, by rw [HC.out], ⟨HB.out.alloc HB.out.size _⟩⟩, by simp [intOf]; omega⟩

theorem rdN_inj : ∀ (n : Nat) (l m : List UInt8), l.length = n → m.length = n → rdN l = rdN m → l = m
  | 0, l, m, h1, h2, _ => by rw [List.eq_nil_of_length_eq_zero h1, List.eq_nil_of_length_eq_zero h2]
  | n + 1, l, m, h1, h2, h => by
    rcases List.eq_nil_or_concat l with rfl | ⟨l', c, rfl⟩
    · simp at h1
    · rcases List.eq_nil_or_concat m with rfl | ⟨m', d, rfl⟩
      · simp at h2
      · rw [List.concat_eq_append] at *
        rw [List.concat_eq_append] at *
        rw [rdN_snoc, rdN_snoc] at h
        have hc := c.toNat_lt
        have hd := d.toNat_lt
        have e1 : rdN l' = rdN m' := by omega
        have e2 : c.toNat = d.toNat := by omega
        rw [rdN_inj n l' m' (by simpa using h1) (by simpa using h2) e1, UInt8.toNat_inj.1 e2]

theorem bs_rdN (b : ByteArray) (h : b.size = 8) : strOfNums (byL (rdN b.data.toList) 8) = b := by
  have hl : b.data.toList.length = 8 := by rw [Array.length_toList]; exact h
  have hlt := rdN_lt b.data.toList
  rw [hl] at hlt
  have hx : rdN b.data.toList < 18446744073709551616 := hlt
  have := rdN_inj 8 (bs (rdN b.data.toList)).data.toList b.data.toList (by rw [Array.length_toList]; rfl) hl (rdN_bs hx)
  have h2 : bs (rdN b.data.toList) = b := by
    apply ByteArray.ext
    exact Array.toList_inj.1 this
  exact h2

theorem RealTells_walk (a0 a1 a2 : Int) (b : ByteArray) (w0 : (Lit.int .u64 a0).wf = true) (w1 : (Lit.int .u64 a1).wf = true) (w2 : (Lit.int .i64 a2).wf = true) (_y1 : b.size ≤ maxLen) (w : World) :
    Calls Try.prog 14 #[.int .u64 a0, .int .u64 a1, .int .i64 a2, .string b] w fun e w' => e = .returned (.bool true) ∧ Below w.heap.size w w' := by
  have b0 := bounds_u64 w0
  have b1 := bounds_u64 w1
  have b2 := bounds_i64 w2
  obtain ⟨x, rfl⟩ := Int.eq_ofNat_of_zero_le b0.1
  obtain ⟨y, rfl⟩ := Int.eq_ofNat_of_zero_le b1.1
  have hx : x < 18446744073709551616 := by omega
  have hy : y < 18446744073709551616 := by omega
  by_cases hm : 20 < (b.size : Int)
  · exact tells_long _ _ _ b w hm
  · have r1 := fun w => read_eight (bs x) w (bs_size x)
    rw [rdN_bs hx] at r1
    have ha : a2.natAbs ≤ 9223372036854775808 := by omega
    have hS : ∀ w, Calls Try.prog 25 #[.float .f64 x, .float .f64 y] w fun e w' => e = .returned (.bool ((x : Int) == (y : Int))) ∧ w = w' := by
      rw [same_eq]; exact same_any x y
    by_cases h8 : b.size = 8
    · have r2 := fun w => read_eight b w h8
      refine tells_core x y a2 b (getA x) (getE x) (ordA x y) (cls x) (rdN b.data.toList) (putW a2) (ofInt a2) true w hm _ (Lib.hid (get_any x hx)) (Lib.hid (rget_any x hx)) (Lib.hid (bytes_any x)) (Lib.hid r1) (Lib.hid r2) (Lib.hid (fun _ w => ?_)) (Lib.hid (put_any a2 ha)) (Lib.hid (class_any x hx)) (Lib.hid (rclass_any x hx)) (Lib.hid (order_any x y hx hy)) (Lib.hid (rorder_any x y hx hy)) (Lib.hid hS) rfl (by rw [h8]; rfl) (by intro h; cases h) (int_run a2) (div_run (put_is (by omega)))
      have := bytes_any (rdN b.data.toList) w
      rw [bs_rdN b h8] at this
      exact this
    · have h8' : ((b.size : Int) == 8) = false := by
        rw [beq_eq_false_iff_ne]; omega
      have r2 := fun w => read_short b w h8'
      exact tells_core x y a2 b (getA x) (getE x) (ordA x y) (cls x) 0 (putW a2) (ofInt a2) false w hm _ (Lib.hid (get_any x hx)) (Lib.hid (rget_any x hx)) (Lib.hid (bytes_any x)) (Lib.hid r1) (Lib.hid r2) (Lib.hid (fun h => by cases h)) (Lib.hid (put_any a2 ha)) (Lib.hid (class_any x hx)) (Lib.hid (rclass_any x hx)) (Lib.hid (order_any x y hx hy)) (Lib.hid (rorder_any x y hx hy)) (Lib.hid hS) rfl h8' (fun _ => rfl) (int_run a2) (div_run (put_is (by omega)))
end Go.Proofs.Ytopkfjnhaikpaaa
