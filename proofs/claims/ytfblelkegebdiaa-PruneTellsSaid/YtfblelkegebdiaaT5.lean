/- alive: what the document fixes. -/
import Derived.Test.YtfblelkegebdiaaT4
import Derived.Test.YtfblelkegebdiaaSI
import Derived.Outline
namespace Go.Proofs.Ytfblelkegebdiaa.V
open Go.Proofs Go.RowKit Go.Lib Go.Proofs.YtfblelkegebdiaaW.PrintWords Go.Proofs.YtfblelkegebdiaaW.PrintLast Go.Proofs.YtfblelkegebdiaaW.PrintMore
set_option linter.unusedVariables false
set_option linter.unusedSimpArgs false

theorem C_block {α : Type} {d : Kd α} {w : World} {g e : Nat} {cs : Array Value} {xs : List α} (h : w.heap[g]? = some (.cells cs e (0, 0))) (hr : Reps (d.K w) d.sz xs cs.toList) (hl : xs.length ≤ 9223372036854775807) : d.C w (some ⟨g, 0, none⟩) xs.length xs := by
  refine ⟨rfl, hl, fun _ => ⟨_, rfl, fun j p hj => ?_⟩⟩
  have h1 := hr.2 j p hj
  refine ⟨_, d.K_len h1, h1, fun i u hu => ?_⟩
  have hi : i < d.sz := by
    rcases Nat.lt_or_ge i d.sz with h | h
    · exact h
    · rw [List.getElem?_eq_none (by rw [d.K_len h1]; exact h)] at hu; cases hu
  rw [List.getElem?_take_of_lt hi, List.getElem?_drop, Array.getElem?_toList] at hu
  rw [add_plain, blk_cell h]
  exact hu
set_option maxHeartbeats 1000000 in
theorem box_any (a b : Int) (w : World) : Calls Try.prog 16 #[.int .i64 a, .int .i64 b] w fun e w' => e = .returned (.agg #[.int .i64 a, .int .i64 0, .int .i64 b, .int .i64 0]) ∧ Below w.heap.size w w' := by
  go_enter Try.func16, Try.ntmps16
  go_wp2
  refine bodyPost_ret (v := .agg #[.int .i64 a, .int .i64 0, .int .i64 b, .int .i64 0]) (by simp [results, Try.results16, go_sem]) rfl ⟨rfl, ?_⟩
  exact below_alloc (Below.refl _ _) _
def aL : List Bx := [⟨0, 0, 2, 0⟩, ⟨1, 0, 3, 0⟩, ⟨5, 0, 6, 0⟩]
def bL : List Bx := [⟨3, 0, 4, 0⟩, ⟨1, 0, 2, 0⟩]
theorem aL_pairs : pairsOf aL = [⟨0, 1⟩] := by decide
theorem bL_sorted (d : List Nat) (h : d.Perm (List.range 2)) (hs : d.Pairwise fun a b => (at_ bL a).f0 ≤ (at_ bL b).f0) : D_ d = [1, 0] := by
  have hl := h.length_eq
  match d, hl with
  | [a, b], _ =>
    have ha : a ∈ List.range 2 := h.mem_iff.1 (by simp)
    have hb : b ∈ List.range 2 := h.mem_iff.1 (by simp)
    have hn : [a, b].Nodup := h.nodup_iff.2 List.nodup_range
    simp at hn
    rw [List.mem_range] at ha hb
    rw [List.pairwise_cons] at hs
    have h2 := hs.1 b (by simp)
    have : (a = 1 ∧ b = 0) ∨ (a = 0 ∧ b = 1) := by omega
    rcases this with ⟨rfl, rfl⟩ | ⟨rfl, rfl⟩
    · rfl
    · exact absurd h2 (by decide)
theorem same10 : maquettebook_SameInts.f 5 [1, 0] [1, 0] = some true := by decide +kernel

set_option maxHeartbeats 8000000 in
set_option maxRecDepth 100000 in
theorem alive_any (w : World) : Calls Try.prog 8 #[] w fun e w' => e = .returned (.bool true) ∧ Below w.heap.size w w' := by
  have HB0 := Aside0.mk (Below.refl w.heap.size w)
  go_enter Try.func8, Try.ntmps8
  go_wp2_with (fail)
  with_reducible refine (box_any _ _ _).mono ?_
  rintro e w1 ⟨rfl, hb⟩
  have HB1 := Aside0.mk (below_step HB0.out hb)
  clear hb HB0
  go_wp2_with (fail)
  with_reducible refine (box_any _ _ _).mono ?_
  rintro e w2 ⟨rfl, hb⟩
  have HB2 := Aside0.mk (below_step HB1.out hb)
  clear hb HB1
  go_wp2_with (fail)
  with_reducible refine (box_any _ _ _).mono ?_
  rintro e w3 ⟨rfl, hb⟩
  have HB3 := Aside0.mk (below_step HB2.out hb)
  clear hb HB2
  go_wp2_with (fail)
  have hp := pairs_any (w3.alloc (.cells #[.int .i64 0, .int .i64 0, .int .i64 2, .int .i64 0, .int .i64 1, .int .i64 0, .int .i64 3, .int .i64 0, .int .i64 5, .int .i64 0, .int .i64 6, .int .i64 0] 28)) (some ⟨w3.heap.size, 0, none⟩) 3 aL
    (C_block (d := k28) (MapKept.heap_alloc w3 _).1 (((((Reps.none _ _).snoc (k28_mk _ ⟨0, 0, 2, 0⟩) rfl).snoc (k28_mk _ ⟨1, 0, 3, 0⟩) rfl).snoc (k28_mk _ ⟨5, 0, 6, 0⟩) rfl)) (by decide)) (by decide) (by decide)
  refine hp.mono ?_
  rintro e w4 ⟨v, rfl, hR, hb⟩
  rw [aL_pairs] at hR
  obtain ⟨A, c, rfl, hc, hC⟩ := Kd.R_reads hR
  obtain ⟨ad, rfl, x0, x1⟩ := at_T50 hC 0 (by decide)
  have HB4 := Aside0.mk (below_step (below_alloc HB3.out _) hb)
  rw [Nat.zero_mul] at x0 x1
  rw [show ad.add 0 = ad from by simp [Addr.add]] at x0 x1
  change w4.cell? ad = some (.int .i64 0) at x0
  change w4.cell? ⟨ad.block, ad.off + 1, none⟩ = some (.int .i64 1) at x1
  clear hp hR hb hC hc HB3
  go_wp2_with (fail)
  with_reducible refine (box_any _ _ _).mono ?_
  rintro e w5 ⟨rfl, hb⟩
  have HB5 := Aside0.mk (below_step HB4.out hb)
  clear hb HB4 x0 x1
  go_wp2_with (fail)
  with_reducible refine (box_any _ _ _).mono ?_
  rintro e w6 ⟨rfl, hb⟩
  have HB6 := Aside0.mk (below_step HB5.out hb)
  clear hb HB5
  go_wp2_with (fail)
  have hp := sorted_any (w6.alloc (.cells #[.int .i64 3, .int .i64 0, .int .i64 4, .int .i64 0, .int .i64 1, .int .i64 0, .int .i64 2, .int .i64 0] 28)) (some ⟨w6.heap.size, 0, none⟩) 2 bL
    (C_block (d := k28) (MapKept.heap_alloc w6 _).1 (((Reps.none _ _).snoc (k28_mk _ ⟨3, 0, 4, 0⟩) rfl).snoc (k28_mk _ ⟨1, 0, 2, 0⟩) rfl) (by decide)) (by decide) (by decide)
  refine hp.mono ?_
  rintro e w7 ⟨v, d, rfl, hR, hd, hb, hs⟩
  have hD := bL_sorted d hd (hs (by decide))
  change (Kd.int .i64).R 3 w7 _ _ v (D_ d) at hR
  rw [hD] at hR
  obtain ⟨A, c, rfl, hc, hC⟩ := Kd.R_reads hR
  have HB7 := Aside0.mk (below_step (below_alloc HB6.out _) hb)
  have HC := Aside0.mk (Kd.C_below hC (below_alloc (Below.refl w7.heap.size w7) (.cells #[.int .i64 1, .int .i64 0] 3)))
  have HC2 := Aside0.mk hc
  clear hp hR hb hC hc hd hs hD HB6
  go_wp2_with (fail)
  have h2 := maquettebook_SameInts.calls 5 A c [1, 0] (some ⟨w7.heap.size, 0, none⟩) 2 [1, 0] true (w7.alloc (.cells #[.int .i64 1, .int .i64 0] 3)) HC.out HC2.out (C_block (d := Kd.int .i64) (MapKept.heap_alloc w7 _).1 (((Reps.none _ _).snoc (p := (1 : Int)) (c := [.int .i64 1]) rfl rfl).snoc (p := (0 : Int)) (c := [.int .i64 0]) rfl rfl) (by decide)) (by decide) same10
  refine h2.mono ?_
  rintro e w8 ⟨rfl, hd⟩
  have HB8 := Aside0.mk (below_step (below_alloc HB7.out _) hd.below)
  clear h2 hd HB7
  go_wp2_with (fail)
  go_ret
  exact ⟨rfl, HB8.out⟩
end Go.Proofs.Ytfblelkegebdiaa.V
