/- slices.Repeat of one string. -/
import Derived.Test.YtcmldpacgbhfmaaP5
import Derived.Test.YtcmldpacgbhfmaaShelf
import Derived.Laws.IdiomCopy
import Derived.StillTailTactics
import Derived.Deep.RegionWith
namespace Go.Proofs.Ytcmldpacgbhfmaa.V
open Go.RowKit Go.Proofs.YtcmldpacgbhfmaaW.PrintWords Go.Proofs.YtcmldpacgbhfmaaW.PrintLast Go.Proofs.YtcmldpacgbhfmaaW.PrintMore
set_option linter.unusedVariables false
set_option linter.unusedSimpArgs false

/-- the new row, of which the first j are s -/
def rowJ (s : ByteArray) (j n : Nat) : List Value := List.replicate j (.string s) ++ List.replicate (n - j) (.string ⟨#[]⟩)
theorem info9 : ∃ i, Try.prog.info? 9 = some i ∧ i.zero = some (.string ⟨#[]⟩) ∧ i.size = 1 ∧ i.bytes = 16 := by
  cases h : Try.prog.info? 9 with
  | none => exact absurd h (by decide +kernel)
  | some i =>
    have e : (Try.prog.info? 9).map (fun i => (i.zero, i.size, i.bytes)) = some (some (.string ⟨#[]⟩), 1, 16) := by kernel_rfl
    rw [h] at e
    simp at e
    exact ⟨i, rfl, e.1, e.2.1, e.2.2⟩
theorem make33 (n : Nat) (h : n ≤ 1000) (w : World) : (Instr.makeSlice 33 (.int .i64 n) (.int .i64 n)).run Try.prog w = .ok (.slice (some ⟨w.heap.size, 0, none⟩) n n) (w.alloc (.cells (rowJ ⟨#[]⟩ 0 n).toArray 9)) := by
  obtain ⟨i, hi, hz, h1, h2⟩ := info9
  have := run_makeSlice (P := Try.prog) (w := w) 33 9 i (.string ⟨#[]⟩) Try.underlying33 hi hz .i64 .i64 n n (by omega) (Int.le_refl _) (by rw [h1]; omega) (by rw [h2]; omega) (by omega)
  rw [h1] at this
  simp only [Int.toNat_natCast, Nat.mul_one] at this
  rw [this]
  have e : madeCells (Value.string ⟨#[]⟩).cells n = (rowJ ⟨#[]⟩ 0 n).toArray := by
    show Array.map (fun x => (#[Value.string ⟨#[]⟩] : Array Value)[x % 1]!) (Array.range n) = _
    apply Array.ext
    · simp [rowJ]
    · intro i h1 h2
      simp [rowJ, Nat.mod_one]
  rw [e]
set_option maxHeartbeats 8000000 in
set_option maxRecDepth 100000 in
theorem repeat_any (w : World) (a : Addr) (s : ByteArray) (n : Nat) (h0 : 1 ≤ n) (h1 : n ≤ 1000) (ha : w.cell? a = some (.string s)) :
    Calls Try.prog 30 #[.slice (some a) 1 1, .int .i64 n] w fun e w' => e = .returned (.slice (some ⟨w.heap.size, 0, none⟩) n n) ∧ w'.heap[w.heap.size]? = some (.cells (Array.replicate n (.string s)) 9 (0, 0)) ∧ Below w.heap.size w w' := by
  have hn : ¬ ((n : Int) < 0) := by omega
  have hn1 : decide ((n : Int) < 0) = false := decide_eq_false hn
  clear hn
  have hmul : ∀ w, Calls Try.prog 36 #[.int .u64 1, .int .u64 n] w fun e w' => e = .returned (.tuple #[.int .u64 0, .int .u64 n]) ∧ w' = w := by
    intro w
    have := Try.bits_Mul 1 n (by decide) (by omega) w
    rw [Nat.one_mul, Nat.div_eq_of_lt (by omega), Nat.mod_eq_of_lt (by omega)] at this
    exact this
  have HM := Aside0.mk hmul
  have H0 := Aside0.mk h0
  have H1 := Aside0.mk h1
  have k1 : ((9223372036854775807 : Int) < (n : Int)) = False := eq_false (by omega)
  have k2 : decide ((9223372036854775807 : Int) < (n : Int)) = false := decide_eq_false (by omega)
  have k3 : decide (9223372036854775807 < n) = false := decide_eq_false (by omega)
  have k4 : IntKind.i64.wrap (n : Int) = n := by rw [IntKind.wrap_i64]; omega
  have k5 : IntKind.u64.wrap (n : Int) = n := by rw [IntKind.wrap_u64]; omega
  have k6 : (0 ≤ (n : Int)) = True := eq_true (by omega)
  clear hmul h0 h1
  have hmk := make33 n H1.out w
  have hin : ∀ j, j < ([(.string s : Value)]).length → ((w.alloc (.cells (rowJ ⟨#[]⟩ 0 n).toArray 9)).cell? ⟨w.heap.size, 0 + j, none⟩).isSome = true := by
    intro j hj
    rw [blk_cell (MapKept.heap_alloc w _).1]
    have : 0 + j < (rowJ ⟨#[]⟩ 0 n).length := by
      simp [rowJ] at hj ⊢
      have := H0.out
      omega
    rw [Nat.zero_add] at this ⊢
    simp [this]
  have hcp := run_copy_cells (P := Try.prog) (w.alloc (.cells (rowJ ⟨#[]⟩ 0 n).toArray 9)) 33 33 3 9 w.heap.size 0 n n a 1 1 [.string s] Try.underlying33 (by kernel_rfl) (by have := H0.out; show 1 = Nat.min 1 n; exact (Nat.min_eq_left this).symm) (by
    intro j v hj
    cases j with
    | zero =>
      simp at hj
      subst hj
      have e : a.add 0 = a := by simp [Addr.add]
      rw [e]
      exact (World.cell?_alloc_lt _ _ _ (World.block_lt_of_cell? w _ ha)).trans ha
    | succ j => simp at hj) hin (by intro j _; exact blk_frozen (MapKept.heap_alloc w _).1 _) (by intro v hv; simp at hv; subst hv; rfl)
  clear hin
  go_enter Try.func30, Try.ntmps30
  go_wp2_with (first
    | (go_at_call 36; (with_reducible refine (HM.out _).mono ?_); rintro e w1 ⟨rfl, rfl⟩))
  obtain ⟨cur, hcur, hcs, hcl⟩ := setCells_row (g := w1.heap.size) (e := 9) [Value.string s] 0 (w1.alloc (.cells (rowJ ⟨#[]⟩ 0 n).toArray 9)) (rowJ ⟨#[]⟩ 0 n).toArray (MapKept.heap_alloc w1 _).1 (by have := H0.out; simp [rowJ]; omega)
  have hst : cur.toList = rowJ s 1 n := by
    rw [hcl]
    have := H0.out
    obtain ⟨k, rfl⟩ : ∃ k, n = k + 1 := ⟨n - 1, by omega⟩
    simp [rowJ, List.replicate_succ]
  obtain rfl : cur = (rowJ s 1 n).toArray := by rw [← hst]
  have HQ0 := Aside0.mk hcur
  have HB0 : Aside0 (Below w1.heap.size w1 ((w1.alloc (.cells (rowJ ⟨#[]⟩ 0 n).toArray 9)).setCells w1.heap.size 0 [Value.string s])) := ⟨below_setG (below_alloc (Below.refl _ _) _) (Nat.le_refl _) _ _⟩
  clear hcur hcs hcl hst hmk hcp
  go_loopg [8] n (fun kq v8 w' => ∃ j : Nat, v8 = .int .i64 j ∧ Aside0 (1 ≤ j ∧ j ≤ n ∧ n ≤ j + kq) ∧ Aside0 (w'.heap[w1.heap.size]? = some (.cells (rowJ s j n).toArray 9 (0, 0))) ∧ Aside0 (Below w1.heap.size w1 w'))
  case atStart => exact ⟨1, rfl, ⟨Nat.le_refl _, H0.out, by omega⟩, HQ0, HB0⟩
  case round =>
    obtain ⟨j, rfl, HJ, HQ, HB⟩ := hrel
    by_cases hjn : j < n
    · have d1 : decide ((j : Int) < (n : Int)) = true := decide_eq_true (by omega)
      have d2 : decide (j < n) = true := decide_eq_true hjn
      have d3 : decide (j ≤ n) = true := decide_eq_true (by omega)
      have d4 : decide ((j : Int) ≤ (n : Int)) = true := decide_eq_true (by omega)
      have d5 : (j ≤ n) = True := eq_true (by omega)
      have d6 : ((j : Int) ≤ (n : Int)) = True := eq_true (by omega)
      have d7 : (0 ≤ (j : Int)) = True := eq_true (by omega)
      have d8 : (n = j) = False := eq_false (by omega)
      cases gk with
      | zero => have := HJ.out; omega
      | succ kk =>
        have HN := Aside0.mk hjn
        clear hjn
        go_upto_region 9 with (fail)
        have J := HJ.out
        have hjn := HN.out
        have hrow : ∀ i v, (rowJ s j n)[i]? = some v → wr.drew.cell? ⟨w1.heap.size, i, none⟩ = some v := by
          intro i v hi
          show wr.cell? _ = _
          rw [blk_cell HQ.out]
          simpa using hi
        have hcp := run_copy_cells (P := Try.prog) wr.drew 33 33 3 9 w1.heap.size j (n - j) (n - j) ⟨w1.heap.size, 0, none⟩ j n (List.replicate (Nat.min j (n - j)) (.string s)) Try.underlying33 (by kernel_rfl) (by rw [List.length_replicate]) (by
          intro i v hi
          have e : (⟨w1.heap.size, 0, none⟩ : Addr).add i = ⟨w1.heap.size, i, none⟩ := by simp [Addr.add]; intro hk; exact hk.symm
          rw [e]
          refine hrow i v ?_
          rw [List.getElem?_replicate] at hi
          split at hi
          · rename_i hlt
            have : i < j := Nat.lt_of_lt_of_le hlt (Nat.min_le_left _ _)
            unfold rowJ
            rw [List.getElem?_append_left (by simpa using this), List.getElem?_replicate, if_pos this]; exact hi
          · cases hi) (by
          intro i hi
          rw [List.length_replicate] at hi
          have h2 : i < n - j := Nat.lt_of_lt_of_le hi (Nat.min_le_right _ _)
          have h3 : j + i < (rowJ s j n).length := by simp [rowJ]; omega
          rw [hrow (j + i) _ (List.getElem?_eq_getElem h3)]; rfl) (by intro i _; exact blk_frozen (show wr.drew.heap[w1.heap.size]? = _ from HQ.out) _) (by intro v hv; obtain ⟨_, rfl⟩ := List.mem_replicate.1 hv; rfl)
        rw [List.length_replicate] at hcp
        clear hrow J hjn
        have hmin : Nat.min j (n - j) ≤ j ∧ Nat.min j (n - j) ≤ n - j ∧ (1 ≤ j → 1 ≤ n - j → 1 ≤ Nat.min j (n - j)) := ⟨Nat.min_le_left _ _, Nat.min_le_right _ _, fun a b => Nat.le_min.2 ⟨a, b⟩⟩
        have HMin := Aside0.mk hmin
        generalize hu : Nat.min j (n - j) = u at *
        clear hmin hu
        go_region_with (fail)
        go_wp2
        go_roundg kk
        case measure => omega
        case rel =>
          have J := HJ.out
          have hjn := HN.out
          have hm := HMin.out
          have hn1 := H1.out
          obtain ⟨cur, e1, e2, e3⟩ := setCells_row (g := w1.heap.size) (e := 9) (List.replicate u (Value.string s)) j wr.drew (rowJ s j n).toArray HQ.out (by simp [rowJ]; omega)
          have e4 : cur.toList = rowJ s (j + u) n := by
            rw [e3]
            simp only [rowJ, List.length_replicate]
            rw [List.take_append_of_le_length (by simp), List.take_of_length_le (by simp), List.drop_append, List.drop_eq_nil_of_le (by simp), List.length_replicate, List.nil_append, List.drop_replicate, List.replicate_append_replicate]
            congr 2
            omega
          obtain rfl : cur = (rowJ s (j + u) n).toArray := by rw [← e4]
          refine ⟨j + u, ?_, ⟨by omega⟩, ⟨e1⟩, ⟨?_⟩⟩
          · rw [Value.int.injEq]; refine ⟨rfl, ?_⟩; rw [IntKind.wrap_i64]; omega
          · obtain ⟨t1, t2, t3, t4⟩ := setCells_same w1.heap.size (List.replicate u (Value.string s)) j wr.drew
            exact (below_drew HB.out).trans ⟨t1, t2, t3, by rw [t4]; exact Nat.le_refl _, fun k hk => setCells_far _ _ k (by omega)⟩
    · have hjn2 : j = n := by have := HJ.out; omega
      subst hjn2
      have d1 : decide ((j : Int) < (j : Int)) = false := decide_eq_false (by omega)
      have d2 : decide (j < j) = false := decide_eq_false (by omega)
      go_wp2
      go_ret
      refine ⟨rfl, ?_, HB.out⟩
      have := HQ.out
      rw [this]
      simp [rowJ]
end Go.Proofs.Ytcmldpacgbhfmaa.V
