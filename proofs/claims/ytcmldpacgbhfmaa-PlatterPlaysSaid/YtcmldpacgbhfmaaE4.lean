/- The document's own platter: Platters. -/
import Derived.Test.YtcmldpacgbhfmaaE3
import Derived.Deep.AppendLies
namespace Go.Proofs.Ytcmldpacgbhfmaa.V
open Go.RowKit Go.Proofs.YtcmldpacgbhfmaaW.PrintWords Go.Proofs.YtcmldpacgbhfmaaW.PrintLast Go.Proofs.YtcmldpacgbhfmaaW.PrintMore
set_option linter.unusedVariables false
set_option linter.unusedSimpArgs false

def newR (n : Nat) : RS := { last := List.replicate n (zer 128), float := [], dead := false, after := -1 }
theorem info9m : (Try.prog.info? 9).map (fun i => (i.zero, i.size, i.bytes)) = some (some (.string ⟨#[]⟩), 1, 16) := by kernel_rfl
theorem rep_snoc (n : Nat) (x : ByteArray) : List.replicate n x ++ [x] = List.replicate (n + 1) x := by rw [List.replicate_succ']
set_option maxHeartbeats 8000000 in
set_option maxRecDepth 100000 in
theorem rnew_none (w : World) (n : Int) (h : n < 1 ∨ 200 < n) :
    Calls Try.prog 24 #[.int .i64 n] w fun e w' => e = .returned (.pointer none) ∧ Below w.heap.size w w' := by
  by_cases h0 : n < 1
  · have d1 := decide_eq_true h0
    clear h h0
    go_enter Try.func24, Try.ntmps24
    go_wp2
    go_ret
    exact ⟨rfl, Below.refl _ _⟩
  · have h1 : 200 < n := h.resolve_left h0
    have d1 := decide_eq_false h0
    have d2 := decide_eq_true h1
    clear h h0 h1
    go_enter Try.func24, Try.ntmps24
    go_wp2
    go_ret
    exact ⟨rfl, Below.refl _ _⟩
set_option maxHeartbeats 8000000 in
set_option maxRecDepth 100000 in
theorem rnew_any (w : World) (n : Nat) (h0 : 1 ≤ n) (h1 : n ≤ 200) :
    Calls Try.prog 24 #[.int .i64 n] w fun e w' => ∃ g, e = .returned (.pointer (some ⟨g, 0, none⟩)) ∧ IsR w.heap.size (fun k => w.heap.size ≤ k) w' g (newR n) ∧ Below w.heap.size w w' := by
  have H0 := Aside0.mk h0
  have H1 := Aside0.mk h1
  have d1 : decide ((n : Int) < 1) = false := decide_eq_false (by omega)
  have d2 : decide ((200 : Int) < (n : Int)) = false := decide_eq_false (by omega)
  have d3 : decide (n < 1) = false := decide_eq_false (by omega)
  have d4 : decide (200 < n) = false := decide_eq_false (by omega)
  have d5 : (n = 0) = False := eq_false (by omega)
  have d6 : decide (n = 0) = false := decide_eq_false (by omega)
  have hz : ∀ w, Calls Try.prog 18 #[.int .i64 128] w fun e w' => e = .returned (.string (zer 128)) ∧ Below w.heap.size w w' := fun w => zeros_any 128 (by decide) w
  have HZ := Aside0.mk hz
  clear h0 h1 hz
  go_enter Try.func24, Try.ntmps24
  go_wp2
  clear d1 d2 d3 d4 d5 d6
  go_loopg [4] n (fun kq v4 w' => ∃ i : Nat, v4 = .int .i64 i ∧ Aside0 (i + kq = n) ∧ Aside0 (IsR w.heap.size (fun k => w.heap.size ≤ k) w' w.heap.size (newR i) ∧ Below w.heap.size w w'))
  case atStart =>
    have m2 := (MapKept.heap_alloc w (Obj.cells #[Value.slice none 0 0, Value.slice none 0 0, Value.bool false, Value.int IntKind.i64 (-1)] 55)).1
    exact ⟨0, rfl, ⟨by omega⟩, ⟨⟨_, _, m2, Nat.le_refl _, Nat.le_refl _, Kd.R_nil _ _ _ _ _, Kd.R_nil _ _ _ _ _⟩, below_alloc (Below.refl _ _) _⟩⟩
  case round =>
    obtain ⟨i, rfl, HI, HP⟩ := hrel
    cases gk with
    | zero =>
      have hi : i = n := by have := HI.out; omega
      have hi1 : decide ((i : Int) < (n : Int)) = false := decide_eq_false (by omega)
      have hi1b : decide (i < n) = false := decide_eq_false (by omega)
      have HI2 := Aside0.mk hi
      clear hi
      go_wp2
      go_ret
      have e := HI2.out
      subst e
      exact ⟨_, rfl, HP.out.1, HP.out.2⟩
    | succ k1 =>
      have hi1 : decide ((i : Int) < (n : Int)) = true := decide_eq_true (by have := HI.out; omega)
      have hi1b : decide (i < n) = true := decide_eq_true (by have := HI.out; omega)
      obtain ⟨A, c, B, d, h1, h2, h3, h6, h7⟩ := HP.out.1.cells
      rw [show (newR i).last.length = i from List.length_replicate, show (newR i).float.length = 0 from rfl] at h1
      rw [show (newR i).last.length = i from List.length_replicate] at h6
      obtain ⟨c0, c1, c2, c3⟩ := cell55 h1
      have f0 := blk_frozen h1 0
      have lq := blk_lt h1
      have G1 := Aside0.mk h1
      have G6 := Aside0.mk h6
      obtain ⟨B0, hB0⟩ : ∃ v : Value, v = .slice B 0 d := ⟨_, rfl⟩
      have G7 := Aside0.mk h7
      have HB := Aside0.mk (Below.refl wr.heap.size wr)
      obtain ⟨q, hq⟩ : ∃ q, q = w.heap.size := ⟨_, rfl⟩
      have HQ := Aside0.mk hq
      clear h1 h2 h3 h6 h7 hB0 hq
      go_upto_region 7 with (fail)
      go_region_law (first
        | (go_simp; go_at_call 18; (refine (HZ.out _).mono ?_); rintro e w1 ⟨rfl, hb⟩; have n0_ := Aside0.mk (below_step (by repeat (first | (with_reducible first | exact HB.out | apply below_alloc | apply pw_below_drewN | apply below_drew1) | exact HB.out)) hb); clear HB; have HB := n0_; clear n0_; have K1 := Aside0.mk ((HB.out.block _ (blk_lt G1.out)).trans G1.out); obtain ⟨x0, x1, x2, x3⟩ := cell55 K1.out; have xf0 := blk_frozen K1.out 0; have xl := blk_lt K1.out; clear hb)
        | (refine Kd.R_append_step Kd.string w.heap.size rfl (.tmp 22) (.tmp 24) 33 9 (.string ⟨#[]⟩) 16 rfl Try.underlying33 info9m rfl (by decide) (by omega) (.slice A i c) (List.replicate i (zer 128)) (zer 128) [.string (zer 128)] (fun k => w.heap.size ≤ k) (fun _ => False) rfl rfl rfl (fun _ hk => hk.elim) ?aF (Kd.R_below G6.out HB.out) (Below.refl w.heap.size _) ?aS ?aL ?_; (case aF => exact fun k hk => Nat.le_trans HP.out.2.size (Nat.le_trans HB.out.size hk)); (case aS => exact Nat.le_trans HP.out.2.size HB.out.size); (case aL => rw [List.length_replicate]; have := HI.out; have := H1.out; omega); intro v3 w3 ho hb3 hg3 hat3; obtain ⟨A3, d3, e3⟩ := Kd.R_slice ho; rw [rep_snoc, List.length_replicate] at e3; subst e3; have E4 := Aside0.mk ho; have E5 := Aside0.mk hb3; have E6 := Aside0.mk hg3; have K3 := Aside0.mk ((hg3.block _ (blk_lt K1.out) (own_blk (Kd.R_below G6.out HB.out) K1.out (by decide))).trans K1.out); have hf30 := blk_frozen K3.out 0; obtain ⟨c30, _, _, _⟩ := cell55 K3.out; have lq3 := blk_lt K3.out; clear ho hb3 hg3 hat3))
      all_goals
        go_wp2
        go_roundg k1
        case measure => omega
        case rel =>
          have r7 := Kd.R_below G7.out HB.out
          have r6 := Kd.R_below G6.out HB.out
          have ot := own_types r6 r7 (by decide)
          have r73 := Kd.R_grown2 r7 rfl E6.out ot
          have Q3 : (w3.setCell ⟨w.heap.size, 0, none⟩ (Value.slice A3 (i + 1) d3)).heap[w.heap.size]? = some (.cells #[.slice A3 (i + 1) d3, .slice B 0 d, .bool (newR i).dead, .int .i64 (newR i).after] 55 (0, 0)) := by simpa using blk_set K3.out 0 (Value.slice A3 (i + 1) d3)
          refine ⟨i + 1, ?_, ⟨by have := HI.out; omega⟩, ⟨⟨_, _, Q3, Nat.le_refl _, Nat.le_refl _, ?_, Kd.R_set r73 K3.out T70 0 _⟩, ?_⟩⟩
          · first | rfl | (simp; done) | (rw [Value.int.injEq]; refine ⟨rfl, ?_⟩; have h1 := HI.out; have h2 := H1.out; first | (rw [IntKind.wrap_i64]; omega) | (unfold wrap64; omega))
          · have e4 := E4.out
            rw [rep_snoc] at e4
            exact Kd.R_set e4 K3.out T9' 0 _
          · exact below_setG ((HP.out.2.trans (HB.out.mono HP.out.2.size)).trans E5.out) (Nat.le_refl _) _ _
end Go.Proofs.Ytcmldpacgbhfmaa.V
