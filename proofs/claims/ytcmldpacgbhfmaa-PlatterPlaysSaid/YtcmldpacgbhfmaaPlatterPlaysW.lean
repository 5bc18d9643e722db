/- PlatterPlays, walked. -/
import Derived.Test.YtcmldpacgbhfmaaE7
import Derived.Test.YtcmldpacgbhfmaaOO
import Derived.Deep.RegionHeld3
namespace Go.Proofs.Ytcmldpacgbhfmaa.V
open Go.RowKit Go.Proofs.YtcmldpacgbhfmaaW.PrintWords Go.Proofs.YtcmldpacgbhfmaaW.PrintLast Go.Proofs.YtcmldpacgbhfmaaW.PrintMore
set_option linter.unusedVariables false
set_option linter.unusedSimpArgs false

theorem cell51 {w : World} {g : Nat} {a b c d e : Value} (h : w.heap[g]? = some (.cells #[a, b, c, d, e] 51 (0, 0))) :
    w.cell? ⟨g, 0, none⟩ = some a ∧ w.cell? ⟨g, 1, none⟩ = some b ∧ w.cell? ⟨g, 2, none⟩ = some c ∧ w.cell? ⟨g, 3, none⟩ = some d ∧ w.cell? ⟨g, 4, none⟩ = some e :=
  ⟨(blk_cell h 0).trans rfl, (blk_cell h 1).trans rfl, (blk_cell h 2).trans rfl, (blk_cell h 3).trans rfl, (blk_cell h 4).trans rfl⟩
theorem pack {N k : Nat} {S : PS} {R : RS} {w0 w : World} {p r : Nat} (h1 : Rel N k S R) (h2 : Is2 w0 w p S r R) : ∃ S1 R1, Aside0 (Rel N k S1 R1) ∧ Aside0 (Is2 w0 w p S1 r R1) := ⟨S, R, ⟨h1⟩, ⟨h2⟩⟩
theorem opAt_cells {w0 w : World} (hb : Below w0.heap.size w0 w) {ad : Addr} {i : Nat} {o : OpD} (h : OpAt w0 (ad.add (i * 5)) o) :
    ∃ C cc, w.cell? (ad.add (i * 5)) = some (.int .i64 o.kind) ∧ w.cell? ⟨(ad.add (i * 5)).block, (ad.add (i * 5)).off + 1, none⟩ = some (.int .i64 o.n) ∧ w.cell? ⟨(ad.add (i * 5)).block, (ad.add (i * 5)).off + 2, none⟩ = some (.string o.b) ∧ w.cell? ⟨(ad.add (i * 5)).block, (ad.add (i * 5)).off + 3, none⟩ = some (.bool o.raw) ∧ w.cell? ⟨(ad.add (i * 5)).block, (ad.add (i * 5)).off + 4, none⟩ = some (.slice C o.cuts.length cc) ∧ (Kd.int .i64).C w0 C o.cuts.length o.cuts ∧ (Lit.int .i64 o.kind).wf = true ∧ (Lit.int .i64 o.n).wf = true := by
  obtain ⟨C, cc, h0, h1, h2, h3, h4, hC, w1, w2⟩ := h
  have e : ∀ j, 0 < j → (⟨(ad.add (i * 5)).block, (ad.add (i * 5)).off + j, none⟩ : Addr) = (ad.add (i * 5)).add j := fun j hj => by rw [← add_field _ _ j hj, Addr.add_add]
  rw [e 1 (by decide), e 2 (by decide), e 3 (by decide), e 4 (by decide)]
  exact ⟨C, cc, pw_cell_below hb h0, pw_cell_below hb h1, pw_cell_below hb h2, pw_cell_below hb h3, pw_cell_below hb h4, hC, w1, w2⟩
theorem i2_halted' {w0 w : World} {p r : Nat} {S : PS} {R : RS} (h : Is2 w0 w p S r R) {b : Bool} (hb : S.halted = b) : Calls Try.prog 21 #[.pointer (some ⟨p, 0, none⟩)] w fun e w' => e = .returned (.bool b) ∧ Is2 w0 w' p S r R ∧ Below w.heap.size w w' := by subst hb; exact i2_halted h
theorem i2_afloat' {w0 w : World} {p r : Nat} {S : PS} {R : RS} (h : Is2 w0 w p S r R) {b : Int} (hb : (S.afl.length : Int) = b) : Calls Try.prog 19 #[.pointer (some ⟨p, 0, none⟩)] w fun e w' => e = .returned (.int .i64 b) ∧ Is2 w0 w' p S r R ∧ Below w.heap.size w w' := by subst hb; exact i2_afloat h
theorem i2_pages' {w0 w : World} {p r : Nat} {S : PS} {R : RS} (h : Is2 w0 w p S r R) {b : Int} (hb : (S.safe.length : Int) = b) : Calls Try.prog 23 #[.pointer (some ⟨p, 0, none⟩)] w fun e w' => e = .returned (.int .i64 b) ∧ Is2 w0 w' p S r R ∧ Below w.heap.size w w' := by subst hb; exact i2_pages h
set_option maxHeartbeats 8000000 in
set_option maxRecDepth 100000 in
theorem plays_early (w0 : World) (n : Int) (A : Option Addr) (c : Nat) (l : List OpD) (h : (20 < n ∧ n ≤ 200) ∨ 80 < l.length) :
    Calls Try.prog 10 #[.int .i64 n, .slice A l.length c] w0 fun e w' => e = .returned (.bool true) ∧ Below w0.heap.size w0 w' := by
  have HB := Aside0.mk (Below.refl w0.heap.size w0)
  by_cases h1 : 20 < n
  · have t1 := decide_eq_true h1
    by_cases h2 : n ≤ 200
    · have t2 := decide_eq_true h2
      clear h h1 h2
      go_enter Try.func10, Try.ntmps10
      go_wp2_with (first | (go_at_call 11; (with_reducible refine (alive_any _).mono ?_); rintro e w1 ⟨rfl, hb⟩; have n0_ := Aside0.mk (below_step HB.out hb); clear HB; have HB := n0_; clear n0_))
      go_ret
      exact ⟨by first | rfl | simp, HB.out⟩
    · have t2 := decide_eq_false h2
      have h3 : 80 < l.length := h.resolve_left (fun hx => h2 hx.2)
      have t3 := decide_eq_true h3
      have t4 : decide (80 < (l.length : Int)) = true := decide_eq_true (by omega)
      clear h h1 h2 h3
      go_enter Try.func10, Try.ntmps10
      go_wp2_with (first | (go_at_call 11; (with_reducible refine (alive_any _).mono ?_); rintro e w1 ⟨rfl, hb⟩; have n0_ := Aside0.mk (below_step HB.out hb); clear HB; have HB := n0_; clear n0_))
      go_ret
      exact ⟨by first | rfl | simp, HB.out⟩
  · have t1 := decide_eq_false h1
    have h3 : 80 < l.length := h.resolve_left (fun hx => h1 hx.1)
    have t3 := decide_eq_true h3
    have t4 : decide (80 < (l.length : Int)) = true := decide_eq_true (by omega)
    clear h h1 h3
    go_enter Try.func10, Try.ntmps10
    go_wp2_with (first | (go_at_call 11; (with_reducible refine (alive_any _).mono ?_); rintro e w1 ⟨rfl, hb⟩; have n0_ := Aside0.mk (below_step HB.out hb); clear HB; have HB := n0_; clear n0_))
    go_ret
    exact ⟨by first | rfl | simp, HB.out⟩

set_option maxHeartbeats 8000000 in
set_option maxRecDepth 100000 in
theorem plays_nil (w0 : World) (n : Int) (A : Option Addr) (c : Nat) (l : List OpD) (h : n < 1 ∨ 200 < n) (hl : l.length ≤ 80) :
    Calls Try.prog 10 #[.int .i64 n, .slice A l.length c] w0 fun e w' => e = .returned (.bool true) ∧ Below w0.heap.size w0 w' := by
  have HB := Aside0.mk (Below.refl w0.heap.size w0)
  have HN := Aside0.mk h
  have t3 : decide (80 < l.length) = false := decide_eq_false (by omega)
  have t4 : decide (80 < (l.length : Int)) = false := decide_eq_false (by omega)
  by_cases h1 : 20 < n
  · have t1 := decide_eq_true h1
    have t2 : decide (n ≤ 200) = false := decide_eq_false (by omega)
    clear h h1 hl
    go_enter Try.func10, Try.ntmps10
    go_wp2_with (first
    | (go_at_call 11; go_must (with_reducible refine (alive_any _).mono ?_); rintro e w1 ⟨rfl, hb⟩; have n0_ := Aside0.mk (below_step (by repeat (first | (with_reducible first | exact HB.out | apply below_alloc | apply pw_below_drewN | apply below_drew1) | exact HB.out)) hb); clear HB; have HB := n0_; clear n0_)
    | (go_at_call 12; go_must (with_reducible refine (new_none _ n HN.out).mono ?_); rintro e w1 ⟨rfl, hb⟩; have n0_ := Aside0.mk (below_step (by repeat (first | (with_reducible first | exact HB.out | apply below_alloc | apply pw_below_drewN | apply below_drew1) | exact HB.out)) hb); clear HB; have HB := n0_; clear n0_)
    | (go_at_call 24; go_must (with_reducible refine (rnew_none _ n HN.out).mono ?_); rintro e w1 ⟨rfl, hb⟩; have n0_ := Aside0.mk (below_step (by repeat (first | (with_reducible first | exact HB.out | apply below_alloc | apply pw_below_drewN | apply below_drew1) | exact HB.out)) hb); clear HB; have HB := n0_; clear n0_)
    | (go_at_call 17; go_must (with_reducible refine (nil_load _ 0).mono ?_); rintro e w1 ⟨rfl, hb⟩; have n0_ := Aside0.mk (below_step (by repeat (first | (with_reducible first | exact HB.out | apply below_alloc | apply pw_below_drewN | apply below_drew1) | exact HB.out)) hb); clear HB; have HB := n0_; clear n0_)
    | (go_at_call 20; go_must (with_reducible refine (nil_halt _ 1).mono ?_); rintro e w1 ⟨rfl, hb⟩; have n0_ := Aside0.mk (below_step (by repeat (first | (with_reducible first | exact HB.out | apply below_alloc | apply pw_below_drewN | apply below_drew1) | exact HB.out)) hb); clear HB; have HB := n0_; clear n0_)
    | (go_at_call 13; go_must (refine (fill_any ⟨#[]⟩ _).mono ?_); rintro e w1 ⟨rfl, hb⟩; have n0_ := Aside0.mk (below_step (by repeat (first | (with_reducible first | exact HB.out | apply below_alloc | apply pw_below_drewN | apply below_drew1) | exact HB.out)) hb); clear HB; have HB := n0_; clear n0_)
    | (go_at_call 14; go_must (with_reducible refine (nil_store _ 0 _).mono ?_); rintro e w1 ⟨rfl, hb⟩; have n0_ := Aside0.mk (below_step (by repeat (first | (with_reducible first | exact HB.out | apply below_alloc | apply pw_below_drewN | apply below_drew1) | exact HB.out)) hb); clear HB; have HB := n0_; clear n0_)
    | (go_at_call 15; go_must (with_reducible refine (nil_settle _).mono ?_); rintro e w1 ⟨rfl, hb⟩; have n0_ := Aside0.mk (below_step (by repeat (first | (with_reducible first | exact HB.out | apply below_alloc | apply pw_below_drewN | apply below_drew1) | exact HB.out)) hb); clear HB; have HB := n0_; clear n0_)
    | (go_at_call 21; go_must (with_reducible refine (nil_halted _).mono ?_); rintro e w1 ⟨rfl, hb⟩; have n0_ := Aside0.mk (below_step (by repeat (first | (with_reducible first | exact HB.out | apply below_alloc | apply pw_below_drewN | apply below_drew1) | exact HB.out)) hb); clear HB; have HB := n0_; clear n0_)
    | (go_at_call 16; go_must (with_reducible refine (nil_fail _).mono ?_); rintro e w1 ⟨rfl, hb⟩; have n0_ := Aside0.mk (below_step (by repeat (first | (with_reducible first | exact HB.out | apply below_alloc | apply pw_below_drewN | apply below_drew1) | exact HB.out)) hb); clear HB; have HB := n0_; clear n0_)
    | (go_at_call 19; go_must (with_reducible refine (nil_afloat _).mono ?_); rintro e w1 ⟨rfl, hb⟩; have n0_ := Aside0.mk (below_step (by repeat (first | (with_reducible first | exact HB.out | apply below_alloc | apply pw_below_drewN | apply below_drew1) | exact HB.out)) hb); clear HB; have HB := n0_; clear n0_)
    | (go_at_call 23; go_must (with_reducible refine (nil_pages _).mono ?_); rintro e w1 ⟨rfl, hb⟩; have n0_ := Aside0.mk (below_step (by repeat (first | (with_reducible first | exact HB.out | apply below_alloc | apply pw_below_drewN | apply below_drew1) | exact HB.out)) hb); clear HB; have HB := n0_; clear n0_)
    | (go_at_call 22; go_must (with_reducible refine (nil_twin _).mono ?_); rintro e w1 ⟨rfl, hb⟩; have n0_ := Aside0.mk (below_step (by repeat (first | (with_reducible first | exact HB.out | apply below_alloc | apply pw_below_drewN | apply below_drew1) | exact HB.out)) hb); clear HB; have HB := n0_; clear n0_))
    go_ret
    exact ⟨by first | rfl | simp, HB.out⟩
  · have t1 := decide_eq_false h1
    clear h h1 hl
    go_enter Try.func10, Try.ntmps10
    go_wp2_with (first
    | (go_at_call 11; go_must (with_reducible refine (alive_any _).mono ?_); rintro e w1 ⟨rfl, hb⟩; have n0_ := Aside0.mk (below_step (by repeat (first | (with_reducible first | exact HB.out | apply below_alloc | apply pw_below_drewN | apply below_drew1) | exact HB.out)) hb); clear HB; have HB := n0_; clear n0_)
    | (go_at_call 12; go_must (with_reducible refine (new_none _ n HN.out).mono ?_); rintro e w1 ⟨rfl, hb⟩; have n0_ := Aside0.mk (below_step (by repeat (first | (with_reducible first | exact HB.out | apply below_alloc | apply pw_below_drewN | apply below_drew1) | exact HB.out)) hb); clear HB; have HB := n0_; clear n0_)
    | (go_at_call 24; go_must (with_reducible refine (rnew_none _ n HN.out).mono ?_); rintro e w1 ⟨rfl, hb⟩; have n0_ := Aside0.mk (below_step (by repeat (first | (with_reducible first | exact HB.out | apply below_alloc | apply pw_below_drewN | apply below_drew1) | exact HB.out)) hb); clear HB; have HB := n0_; clear n0_)
    | (go_at_call 17; go_must (with_reducible refine (nil_load _ 0).mono ?_); rintro e w1 ⟨rfl, hb⟩; have n0_ := Aside0.mk (below_step (by repeat (first | (with_reducible first | exact HB.out | apply below_alloc | apply pw_below_drewN | apply below_drew1) | exact HB.out)) hb); clear HB; have HB := n0_; clear n0_)
    | (go_at_call 20; go_must (with_reducible refine (nil_halt _ 1).mono ?_); rintro e w1 ⟨rfl, hb⟩; have n0_ := Aside0.mk (below_step (by repeat (first | (with_reducible first | exact HB.out | apply below_alloc | apply pw_below_drewN | apply below_drew1) | exact HB.out)) hb); clear HB; have HB := n0_; clear n0_)
    | (go_at_call 13; go_must (refine (fill_any ⟨#[]⟩ _).mono ?_); rintro e w1 ⟨rfl, hb⟩; have n0_ := Aside0.mk (below_step (by repeat (first | (with_reducible first | exact HB.out | apply below_alloc | apply pw_below_drewN | apply below_drew1) | exact HB.out)) hb); clear HB; have HB := n0_; clear n0_)
    | (go_at_call 14; go_must (with_reducible refine (nil_store _ 0 _).mono ?_); rintro e w1 ⟨rfl, hb⟩; have n0_ := Aside0.mk (below_step (by repeat (first | (with_reducible first | exact HB.out | apply below_alloc | apply pw_below_drewN | apply below_drew1) | exact HB.out)) hb); clear HB; have HB := n0_; clear n0_)
    | (go_at_call 15; go_must (with_reducible refine (nil_settle _).mono ?_); rintro e w1 ⟨rfl, hb⟩; have n0_ := Aside0.mk (below_step (by repeat (first | (with_reducible first | exact HB.out | apply below_alloc | apply pw_below_drewN | apply below_drew1) | exact HB.out)) hb); clear HB; have HB := n0_; clear n0_)
    | (go_at_call 21; go_must (with_reducible refine (nil_halted _).mono ?_); rintro e w1 ⟨rfl, hb⟩; have n0_ := Aside0.mk (below_step (by repeat (first | (with_reducible first | exact HB.out | apply below_alloc | apply pw_below_drewN | apply below_drew1) | exact HB.out)) hb); clear HB; have HB := n0_; clear n0_)
    | (go_at_call 16; go_must (with_reducible refine (nil_fail _).mono ?_); rintro e w1 ⟨rfl, hb⟩; have n0_ := Aside0.mk (below_step (by repeat (first | (with_reducible first | exact HB.out | apply below_alloc | apply pw_below_drewN | apply below_drew1) | exact HB.out)) hb); clear HB; have HB := n0_; clear n0_)
    | (go_at_call 19; go_must (with_reducible refine (nil_afloat _).mono ?_); rintro e w1 ⟨rfl, hb⟩; have n0_ := Aside0.mk (below_step (by repeat (first | (with_reducible first | exact HB.out | apply below_alloc | apply pw_below_drewN | apply below_drew1) | exact HB.out)) hb); clear HB; have HB := n0_; clear n0_)
    | (go_at_call 23; go_must (with_reducible refine (nil_pages _).mono ?_); rintro e w1 ⟨rfl, hb⟩; have n0_ := Aside0.mk (below_step (by repeat (first | (with_reducible first | exact HB.out | apply below_alloc | apply pw_below_drewN | apply below_drew1) | exact HB.out)) hb); clear HB; have HB := n0_; clear n0_)
    | (go_at_call 22; go_must (with_reducible refine (nil_twin _).mono ?_); rintro e w1 ⟨rfl, hb⟩; have n0_ := Aside0.mk (below_step (by repeat (first | (with_reducible first | exact HB.out | apply below_alloc | apply pw_below_drewN | apply below_drew1) | exact HB.out)) hb); clear HB; have HB := n0_; clear n0_))
    go_ret
    exact ⟨by first | rfl | simp, HB.out⟩

set_option maxHeartbeats 16000000 in
set_option maxRecDepth 100000 in
theorem plays_main (w0 : World) (n : Nat) (A : Option Addr) (c : Nat) (l : List OpD) (n0 : 1 ≤ n) (n1 : n ≤ 20) (hl : l.length ≤ 80) (hr : OpsAt w0 A l) :
    Calls Try.prog 10 #[.int .i64 n, .slice A l.length c] w0 fun e w' => e = .returned (.bool true) ∧ Below w0.heap.size w0 w' := by
  have HB := Aside0.mk (Below.refl w0.heap.size w0)
  have HR := Aside0.mk hr
  have L1 := Aside0.mk hl
  have N0 := Aside0.mk n0
  have N1 := Aside0.mk n1
  have t1 : decide (20 < n) = false := decide_eq_false (by omega)
  have t2 : decide (20 < (n : Int)) = false := decide_eq_false (by omega)
  have t3 : decide (80 < l.length) = false := decide_eq_false (by omega)
  have t4 : decide (80 < (l.length : Int)) = false := decide_eq_false (by omega)
  have hn : ∀ w, Below w0.heap.size w0 w → Calls Try.prog 12 #[.int .i64 n] w fun e w' => ∃ g, e = .returned (.pointer (some ⟨g, 0, none⟩)) ∧ IsQ w0 w' g (newS n) := fun w h => q_new w0 w h n n0 (by omega)
  have X0 := Aside0.mk hn
  clear hn hr hl n0 n1
  go_enter Try.func10, Try.ntmps10
  go_wp2_with (first
    | (go_at_call 11; (with_reducible refine (alive_any _).mono ?_); rintro e w1 ⟨rfl, hb⟩; have n0_ := Aside0.mk (below_step HB.out hb); clear HB; have HB := n0_; clear n0_)
    | (go_at_call 12; go_must (with_reducible refine (X0.out _ HB.out).mono ?_); rintro e w1 ⟨p0, rfl, hq⟩; have IQ := Aside0.mk hq; have QB := Aside0.mk hq.1; have N2 := Aside0.mk (Nat.le_trans N1.out (by decide : 20 ≤ 200)); clear hq)
    | (go_at_call 24; go_must (with_reducible refine (i2_new w0 _ QB.out n N0.out N2.out IQ.out).mono ?_); rintro e w1 ⟨r, rfl, hq⟩; have IPc := Aside0.mk hq; clear hq IQ QB N2))
  go_loopg [5, 92] l.length (fun kq v5 v92 w' => ∃ (i p : Nat) (S : PS) (R : RS), v5 = .pointer (some ⟨p, 0, none⟩) ∧ v92 = .int .i64 i ∧ Aside0 (i ≤ l.length ∧ l.length ≤ i + kq) ∧ Aside0 (Rel n i S R) ∧ Aside0 (Is2 w0 w' p S r R))
  case atStart => exact ⟨0, _, _, _, rfl, rfl, ⟨Nat.zero_le _, by omega⟩, ⟨Rel.start n⟩, IPc⟩
  case round =>
    clear IPc HB X0
    obtain ⟨i, p, S, R, rfl, rfl, HJ, HS, IPc⟩ := hrel
    by_cases hjn : i < l.length
    · have d1 : decide ((i : Int) < (l.length : Int)) = true := decide_eq_true (by omega)
      have d2 : decide (i < l.length) = true := decide_eq_true hjn
      have d3 : (0 ≤ (i : Int)) = True := eq_true (by omega)
      have d5 : (i < l.length) = True := eq_true hjn
      have d6 : ((i : Int) < (l.length : Int)) = True := eq_true (by omega)
      cases gk with
      | zero => have := HJ.out; omega
      | succ kk =>
        obtain ⟨ad, e0, hat⟩ := HR.out (by omega)
        subst e0
        obtain ⟨od, hod⟩ : ∃ od, l[i]? = some od := ⟨_, List.getElem?_eq_getElem hjn⟩
        obtain ⟨C, cc, y0, y1, y2, y3, y4, hC, wk, wn⟩ := opAt_cells IPc.out.1 (hat i od hod)
        obtain ⟨kd, nn, bb, raw, cl⟩ := od
        simp only at y0 y1 y2 y3 y4 hC wk wn
        have HN := Aside0.mk hjn
        have HC := Aside0.mk hC
        have WN := Aside0.mk wn
        clear hjn hod hat hC wk wn
        go_upto_region 14 with (fail)
        have hko := (MapKept.heap_alloc wr (Obj.cells #[.int .i64 kd, .int .i64 nn, .string bb, .bool raw, .slice C cl.length cc] 51)).1
        have hia := IPc.out.alloc (Obj.cells #[.int .i64 kd, .int .i64 nn, .string bb, .bool raw, .slice C cl.length cc] 51)
        clear IPc y0 y1 y2 y3 y4
        generalize wr.alloc (Obj.cells #[.int .i64 kd, .int .i64 nn, .string bb, .bool raw, .slice C cl.length cc] 51) = wA at *
        generalize wr.heap.size = oa at *
        have KO := Aside0.mk hko
        have IPc := Aside0.mk hia
        obtain ⟨z0, z1, z2, z3, z4⟩ := cell51 hko
        clear hko hia
        have FW : Aside0 (R.float.length ≤ 1000 ∧ S.afl.length ≤ 1000) := ⟨by rw [HS.out.afl]; have := HS.out.few; have := HN.out; have := L1.out; omega⟩
        by_cases g1 : 300 < bb.size
        · have s1 := decide_eq_true g1
          have s2 : decide (300 < (bb.size : Int)) = true := decide_eq_true (by omega)
          clear g1
          go_wp2
          go_ret
          exact ⟨by first | rfl | simp, by have HB := Aside0.mk IPc.out.1; repeat (first | (with_reducible first | exact HB.out | apply below_alloc | apply pw_below_drewN | apply below_drew1) | exact HB.out)⟩
        have s1 := decide_eq_false g1
        have s2 : decide (300 < (bb.size : Int)) = false := decide_eq_false (by omega)
        clear g1
        by_cases g2 : 60 < cl.length
        · have s3 := decide_eq_true g2
          have s4 : decide (60 < (cl.length : Int)) = true := decide_eq_true (by omega)
          clear g2
          go_wp2
          go_ret
          exact ⟨by first | rfl | simp, by have HB := Aside0.mk IPc.out.1; repeat (first | (with_reducible first | exact HB.out | apply below_alloc | apply pw_below_drewN | apply below_drew1) | exact HB.out)⟩
        have s3 := decide_eq_false g2
        have s4 : decide (60 < (cl.length : Int)) = false := decide_eq_false (by omega)
        clear g2
        by_cases k1 : kd = 1
        · subst k1
          obtain ⟨lb, le, hle⟩ : ∃ lb le, loadE S nn = (lb, le) := ⟨_, _, rfl⟩
          have HLD := Aside0.mk hle
          clear hle
          go_upto_region 45 with (first
            | (go_at_call 17; go_must (with_reducible refine (i2_loadP IPc.out nn WN.out).mono ?_); rintro e w1 ⟨rfl, hq, hk⟩; rw [HLD.out]; have n1_ := Aside0.mk (hk _ _ KO.out); clear KO hk; have KO := n1_; clear n1_; obtain ⟨z0, z1, z2, z3, z4⟩ := cell51 KO.out; clear IPc; have IPc := Aside0.mk hq; clear hq)
            | (go_at_call 25; go_must (with_reducible refine (i2_loadR IPc.out nn FW.out.1).mono ?_); rintro e w1 ⟨rfl, hq, hk⟩; rw [HS.out.load, HLD.out]; have n1_ := Aside0.mk (hk _ _ KO.out); clear KO hk; have KO := n1_; clear n1_; obtain ⟨z0, z1, z2, z3, z4⟩ := cell51 KO.out; clear IPc; have IPc := Aside0.mk hq; clear hq))
          obtain ⟨S1, R1, HS1, IP1⟩ := pack (HS.out.mono (Nat.le_succ i)) IPc.out
          clear IPc HS FW HLD
          obtain ⟨rA, rc, rB, rd_, hrc⟩ := IP1.out.cells
          have HRC := Aside0.mk hrc
          obtain ⟨x0, x1, x2, x3⟩ := cell55 hrc
          clear hrc
          go_upto_region 45 with (fail)
          go_region_held3 (fun W' => W'.cell? ⟨r, 1, none⟩ = some (.slice rB R1.float.length rd_) ∧ W'.cell? ⟨r, 2, none⟩ = some (.bool R1.dead)) (go_keep) (first
            | (go_at_call 21; go_must (refine (i2_halted' IP1.out.drew (b := R1.dead) HS1.out.dead.symm).mono ?_); rintro e w1 ⟨rfl, hq, hb⟩; have n1_ := Aside0.mk ((hb.block r (blk_lt HRC.out)).trans HRC.out); clear HRC hb; have HRC := n1_; clear n1_; obtain ⟨y0, y1, y2, y3⟩ := cell55 HRC.out; clear IP1; have IP1 := Aside0.mk hq; clear hq)
            | (go_at_call 19; go_must (refine (i2_afloat' IP1.out (b := R1.float.length) (by rw [HS1.out.afl])).mono ?_); rintro e w1 ⟨rfl, hq, hb⟩; have n1_ := Aside0.mk ((hb.block r (blk_lt HRC.out)).trans HRC.out); clear HRC hb; have HRC := n1_; clear n1_; obtain ⟨y0, y1, y2, y3⟩ := cell55 HRC.out; clear IP1; have IP1 := Aside0.mk hq; clear hq)
            | (go_at_call 23; go_must (refine (i2_pages' IP1.out (b := n) (by rw [HS1.out.len])).mono ?_); rintro e w1 ⟨rfl, hq, hb⟩; have n1_ := Aside0.mk ((hb.block r (blk_lt HRC.out)).trans HRC.out); clear HRC hb; have HRC := n1_; clear n1_; obtain ⟨y0, y1, y2, y3⟩ := cell55 HRC.out; clear IP1; have IP1 := Aside0.mk hq; clear hq))
          go_wp2
          go_roundg kk
          case measure => omega
          case rel =>
            refine ⟨i + 1, p, _, _, rfl, ?_, ⟨by have := HJ.out; have := HN.out; omega⟩, HS1, IP1⟩
            rw [Value.int.injEq]; refine ⟨rfl, ?_⟩; have := HN.out; have := L1.out; first | (rw [IntKind.wrap_i64]; omega) | (unfold wrap64; omega)
        have k1f : (kd == 1) = false := beq_eq_false_iff_ne.2 k1
        clear k1
        by_cases k2 : kd = 2
        · subst k2
          clear k1f
          obtain ⟨pb, hpb⟩ : ∃ pb, pb = if raw = true then bb else fill bb := ⟨_, rfl⟩
          obtain ⟨sv, hsv⟩ : ∃ sv, storeE S nn pb = sv := ⟨_, rfl⟩
          have HPB := Aside0.mk hpb
          have HSV := Aside0.mk hsv
          clear hpb hsv
          cases raw with
          | true =>
            have HP1 : Aside0 (bb = pb) := ⟨by rw [HPB.out, if_pos rfl]⟩
            have hp1 := HP1.out
            subst hp1
            go_upto_region 26 with (fail)
            go_region_held3 (fun W' => W'.cell? ⟨oa, 1, none⟩ = some (.int .i64 nn)) (go_keep) (first
              | (go_at_call 14; go_must (refine (i2_storeP IPc.out.drew nn bb WN.out FW.out.2).mono ?_); rintro e w1 ⟨rfl, hq, hk⟩; rw [HSV.out]; have n1_ := Aside0.mk (hk _ _ KO.out); clear KO hk; have KO := n1_; clear n1_; obtain ⟨z0, z1, z2, z3, z4⟩ := cell51 KO.out; clear IPc; have IPc := Aside0.mk hq; clear hq)
              | (go_at_call 26; go_must (refine (i2_storeR IPc.out nn bb FW.out.1).mono ?_); rintro e w1 ⟨rfl, hq, hk⟩; rw [(HS.out.store nn bb).1, HSV.out]; have n1_ := Aside0.mk (hk _ _ KO.out); clear KO hk; have KO := n1_; clear n1_; obtain ⟨z0, z1, z2, z3, z4⟩ := cell51 KO.out; clear IPc; have IPc := Aside0.mk hq; clear hq))
            go_upto_region 45 with (fail)
            obtain ⟨S1, R1, HS1, IP1⟩ := pack (HS.out.store nn bb).2 IPc.out
            clear IPc HS FW HPB HSV HP1
            obtain ⟨rA, rc, rB, rd_, hrc⟩ := IP1.out.cells
            have HRC := Aside0.mk hrc
            obtain ⟨x0, x1, x2, x3⟩ := cell55 hrc
            clear hrc
            go_upto_region 45 with (fail)
            go_region_held3 (fun W' => W'.cell? ⟨r, 1, none⟩ = some (.slice rB R1.float.length rd_) ∧ W'.cell? ⟨r, 2, none⟩ = some (.bool R1.dead)) (go_keep) (first
              | (go_at_call 21; go_must (refine (i2_halted' IP1.out.drew (b := R1.dead) HS1.out.dead.symm).mono ?_); rintro e w1 ⟨rfl, hq, hb⟩; have n1_ := Aside0.mk ((hb.block r (blk_lt HRC.out)).trans HRC.out); clear HRC hb; have HRC := n1_; clear n1_; obtain ⟨y0, y1, y2, y3⟩ := cell55 HRC.out; clear IP1; have IP1 := Aside0.mk hq; clear hq)
              | (go_at_call 19; go_must (refine (i2_afloat' IP1.out (b := R1.float.length) (by rw [HS1.out.afl])).mono ?_); rintro e w1 ⟨rfl, hq, hb⟩; have n1_ := Aside0.mk ((hb.block r (blk_lt HRC.out)).trans HRC.out); clear HRC hb; have HRC := n1_; clear n1_; obtain ⟨y0, y1, y2, y3⟩ := cell55 HRC.out; clear IP1; have IP1 := Aside0.mk hq; clear hq)
              | (go_at_call 23; go_must (refine (i2_pages' IP1.out (b := n) (by rw [HS1.out.len])).mono ?_); rintro e w1 ⟨rfl, hq, hb⟩; have n1_ := Aside0.mk ((hb.block r (blk_lt HRC.out)).trans HRC.out); clear HRC hb; have HRC := n1_; clear n1_; obtain ⟨y0, y1, y2, y3⟩ := cell55 HRC.out; clear IP1; have IP1 := Aside0.mk hq; clear hq))
            go_wp2
            go_roundg kk
            case measure => omega
            case rel =>
              refine ⟨i + 1, p, _, _, rfl, ?_, ⟨by have := HJ.out; have := HN.out; omega⟩, HS1, IP1⟩
              rw [Value.int.injEq]; refine ⟨rfl, ?_⟩; have := HN.out; have := L1.out; first | (rw [IntKind.wrap_i64]; omega) | (unfold wrap64; omega)
          | false =>
            have HP1 : Aside0 (fill bb = pb) := ⟨by rw [HPB.out, if_neg (by decide)]⟩
            go_upto_region 26 with (first
              | (go_at_call 13; go_must (refine (i2_fill IPc.out bb).mono ?_); rintro e w1 ⟨rfl, hq, hk⟩; rw [HP1.out]; have n1_ := Aside0.mk (hk _ _ KO.out); clear KO hk; have KO := n1_; clear n1_; obtain ⟨z0, z1, z2, z3, z4⟩ := cell51 KO.out; clear IPc; have IPc := Aside0.mk hq; clear hq))
            go_region_held3 (fun W' => W'.cell? ⟨oa, 1, none⟩ = some (.int .i64 nn)) (go_keep) (first
              | (go_at_call 14; go_must (refine (i2_storeP IPc.out.drew nn pb WN.out FW.out.2).mono ?_); rintro e w1 ⟨rfl, hq, hk⟩; rw [HSV.out]; have n1_ := Aside0.mk (hk _ _ KO.out); clear KO hk; have KO := n1_; clear n1_; obtain ⟨z0, z1, z2, z3, z4⟩ := cell51 KO.out; clear IPc; have IPc := Aside0.mk hq; clear hq)
              | (go_at_call 26; go_must (refine (i2_storeR IPc.out nn pb FW.out.1).mono ?_); rintro e w1 ⟨rfl, hq, hk⟩; rw [(HS.out.store nn pb).1, HSV.out]; have n1_ := Aside0.mk (hk _ _ KO.out); clear KO hk; have KO := n1_; clear n1_; obtain ⟨z0, z1, z2, z3, z4⟩ := cell51 KO.out; clear IPc; have IPc := Aside0.mk hq; clear hq))
            go_upto_region 45 with (fail)
            obtain ⟨S1, R1, HS1, IP1⟩ := pack (HS.out.store nn pb).2 IPc.out
            clear IPc HS FW HPB HSV HP1
            obtain ⟨rA, rc, rB, rd_, hrc⟩ := IP1.out.cells
            have HRC := Aside0.mk hrc
            obtain ⟨x0, x1, x2, x3⟩ := cell55 hrc
            clear hrc
            go_upto_region 45 with (fail)
            go_region_held3 (fun W' => W'.cell? ⟨r, 1, none⟩ = some (.slice rB R1.float.length rd_) ∧ W'.cell? ⟨r, 2, none⟩ = some (.bool R1.dead)) (go_keep) (first
              | (go_at_call 21; go_must (refine (i2_halted' IP1.out.drew (b := R1.dead) HS1.out.dead.symm).mono ?_); rintro e w1 ⟨rfl, hq, hb⟩; have n1_ := Aside0.mk ((hb.block r (blk_lt HRC.out)).trans HRC.out); clear HRC hb; have HRC := n1_; clear n1_; obtain ⟨y0, y1, y2, y3⟩ := cell55 HRC.out; clear IP1; have IP1 := Aside0.mk hq; clear hq)
              | (go_at_call 19; go_must (refine (i2_afloat' IP1.out (b := R1.float.length) (by rw [HS1.out.afl])).mono ?_); rintro e w1 ⟨rfl, hq, hb⟩; have n1_ := Aside0.mk ((hb.block r (blk_lt HRC.out)).trans HRC.out); clear HRC hb; have HRC := n1_; clear n1_; obtain ⟨y0, y1, y2, y3⟩ := cell55 HRC.out; clear IP1; have IP1 := Aside0.mk hq; clear hq)
              | (go_at_call 23; go_must (refine (i2_pages' IP1.out (b := n) (by rw [HS1.out.len])).mono ?_); rintro e w1 ⟨rfl, hq, hb⟩; have n1_ := Aside0.mk ((hb.block r (blk_lt HRC.out)).trans HRC.out); clear HRC hb; have HRC := n1_; clear n1_; obtain ⟨y0, y1, y2, y3⟩ := cell55 HRC.out; clear IP1; have IP1 := Aside0.mk hq; clear hq))
            go_wp2
            go_roundg kk
            case measure => omega
            case rel =>
              refine ⟨i + 1, p, _, _, rfl, ?_, ⟨by have := HJ.out; have := HN.out; omega⟩, HS1, IP1⟩
              rw [Value.int.injEq]; refine ⟨rfl, ?_⟩; have := HN.out; have := L1.out; first | (rw [IntKind.wrap_i64]; omega) | (unfold wrap64; omega)
        have k2f : (kd == 2) = false := beq_eq_false_iff_ne.2 k2
        clear k2
        by_cases k3 : kd = 3
        · subst k3
          clear k1f k2f
          obtain ⟨sv, hsv⟩ : ∃ sv, setE S = sv := ⟨_, rfl⟩
          have HSV := Aside0.mk hsv
          clear hsv
          go_upto_region 45 with (first
            | (go_at_call 15; go_must (with_reducible refine (i2_settleP IPc.out HS.out.pages FW.out.2).mono ?_); rintro e w1 ⟨rfl, hq, hk⟩; rw [HSV.out]; have n1_ := Aside0.mk (hk _ _ KO.out); clear KO hk; have KO := n1_; clear n1_; obtain ⟨z0, z1, z2, z3, z4⟩ := cell51 KO.out; clear IPc; have IPc := Aside0.mk hq; clear hq)
            | (go_at_call 27; go_must (with_reducible refine (i2_settleR IPc.out HS.out.pagesR FW.out.1).mono ?_); rintro e w1 ⟨rfl, hq, hk⟩; rw [HS.out.settle.1, HSV.out]; have n1_ := Aside0.mk (hk _ _ KO.out); clear KO hk; have KO := n1_; clear n1_; obtain ⟨z0, z1, z2, z3, z4⟩ := cell51 KO.out; clear IPc; have IPc := Aside0.mk hq; clear hq))
          obtain ⟨S1, R1, HS1, IP1⟩ := pack (HS.out.settle.2.mono (Nat.le_succ i)) IPc.out
          clear IPc HS FW HSV
          obtain ⟨rA, rc, rB, rd_, hrc⟩ := IP1.out.cells
          have HRC := Aside0.mk hrc
          obtain ⟨x0, x1, x2, x3⟩ := cell55 hrc
          clear hrc
          go_upto_region 45 with (fail)
          go_region_held3 (fun W' => W'.cell? ⟨r, 1, none⟩ = some (.slice rB R1.float.length rd_) ∧ W'.cell? ⟨r, 2, none⟩ = some (.bool R1.dead)) (go_keep) (first
            | (go_at_call 21; go_must (refine (i2_halted' IP1.out.drew (b := R1.dead) HS1.out.dead.symm).mono ?_); rintro e w1 ⟨rfl, hq, hb⟩; have n1_ := Aside0.mk ((hb.block r (blk_lt HRC.out)).trans HRC.out); clear HRC hb; have HRC := n1_; clear n1_; obtain ⟨y0, y1, y2, y3⟩ := cell55 HRC.out; clear IP1; have IP1 := Aside0.mk hq; clear hq)
            | (go_at_call 19; go_must (refine (i2_afloat' IP1.out (b := R1.float.length) (by rw [HS1.out.afl])).mono ?_); rintro e w1 ⟨rfl, hq, hb⟩; have n1_ := Aside0.mk ((hb.block r (blk_lt HRC.out)).trans HRC.out); clear HRC hb; have HRC := n1_; clear n1_; obtain ⟨y0, y1, y2, y3⟩ := cell55 HRC.out; clear IP1; have IP1 := Aside0.mk hq; clear hq)
            | (go_at_call 23; go_must (refine (i2_pages' IP1.out (b := n) (by rw [HS1.out.len])).mono ?_); rintro e w1 ⟨rfl, hq, hb⟩; have n1_ := Aside0.mk ((hb.block r (blk_lt HRC.out)).trans HRC.out); clear HRC hb; have HRC := n1_; clear n1_; obtain ⟨y0, y1, y2, y3⟩ := cell55 HRC.out; clear IP1; have IP1 := Aside0.mk hq; clear hq))
          go_wp2
          go_roundg kk
          case measure => omega
          case rel =>
            refine ⟨i + 1, p, _, _, rfl, ?_, ⟨by have := HJ.out; have := HN.out; omega⟩, HS1, IP1⟩
            rw [Value.int.injEq]; refine ⟨rfl, ?_⟩; have := HN.out; have := L1.out; first | (rw [IntKind.wrap_i64]; omega) | (unfold wrap64; omega)
        have k3f : (kd == 3) = false := beq_eq_false_iff_ne.2 k3
        clear k3
        by_cases k4 : kd = 4
        · subst k4
          clear k1f k2f k3f
          go_upto_region 45 with (first
            | (go_at_call 20; go_must (with_reducible refine (i2_haltP IPc.out nn).mono ?_); rintro e w1 ⟨rfl, hq, hk⟩; have n1_ := Aside0.mk (hk _ _ KO.out); clear KO hk; have KO := n1_; clear n1_; obtain ⟨z0, z1, z2, z3, z4⟩ := cell51 KO.out; clear IPc; have IPc := Aside0.mk hq; clear hq)
            | (go_at_call 28; go_must (with_reducible refine (i2_haltR IPc.out nn).mono ?_); rintro e w1 ⟨rfl, hq, hk⟩; have n1_ := Aside0.mk (hk _ _ KO.out); clear KO hk; have KO := n1_; clear n1_; obtain ⟨z0, z1, z2, z3, z4⟩ := cell51 KO.out; clear IPc; have IPc := Aside0.mk hq; clear hq))
          obtain ⟨S1, R1, HS1, IP1⟩ := pack ((HS.out.halt WN.out).mono (Nat.le_succ i)) IPc.out
          clear IPc HS FW
          obtain ⟨rA, rc, rB, rd_, hrc⟩ := IP1.out.cells
          have HRC := Aside0.mk hrc
          obtain ⟨x0, x1, x2, x3⟩ := cell55 hrc
          clear hrc
          go_upto_region 45 with (fail)
          go_region_held3 (fun W' => W'.cell? ⟨r, 1, none⟩ = some (.slice rB R1.float.length rd_) ∧ W'.cell? ⟨r, 2, none⟩ = some (.bool R1.dead)) (go_keep) (first
            | (go_at_call 21; go_must (refine (i2_halted' IP1.out.drew (b := R1.dead) HS1.out.dead.symm).mono ?_); rintro e w1 ⟨rfl, hq, hb⟩; have n1_ := Aside0.mk ((hb.block r (blk_lt HRC.out)).trans HRC.out); clear HRC hb; have HRC := n1_; clear n1_; obtain ⟨y0, y1, y2, y3⟩ := cell55 HRC.out; clear IP1; have IP1 := Aside0.mk hq; clear hq)
            | (go_at_call 19; go_must (refine (i2_afloat' IP1.out (b := R1.float.length) (by rw [HS1.out.afl])).mono ?_); rintro e w1 ⟨rfl, hq, hb⟩; have n1_ := Aside0.mk ((hb.block r (blk_lt HRC.out)).trans HRC.out); clear HRC hb; have HRC := n1_; clear n1_; obtain ⟨y0, y1, y2, y3⟩ := cell55 HRC.out; clear IP1; have IP1 := Aside0.mk hq; clear hq)
            | (go_at_call 23; go_must (refine (i2_pages' IP1.out (b := n) (by rw [HS1.out.len])).mono ?_); rintro e w1 ⟨rfl, hq, hb⟩; have n1_ := Aside0.mk ((hb.block r (blk_lt HRC.out)).trans HRC.out); clear HRC hb; have HRC := n1_; clear n1_; obtain ⟨y0, y1, y2, y3⟩ := cell55 HRC.out; clear IP1; have IP1 := Aside0.mk hq; clear hq))
          go_wp2
          go_roundg kk
          case measure => omega
          case rel =>
            refine ⟨i + 1, p, _, _, rfl, ?_, ⟨by have := HJ.out; have := HN.out; omega⟩, HS1, IP1⟩
            rw [Value.int.injEq]; refine ⟨rfl, ?_⟩; have := HN.out; have := L1.out; first | (rw [IntKind.wrap_i64]; omega) | (unfold wrap64; omega)
        have k4f : (kd == 4) = false := beq_eq_false_iff_ne.2 k4
        clear k4
        by_cases k5 : kd = 5
        · subst k5
          clear k1f k2f k3f k4f
          obtain ⟨sv, hsv⟩ : ∃ sv, (failed S cl S.afl.length).2 = sv := ⟨_, rfl⟩
          have HSV := Aside0.mk hsv
          clear hsv
          go_upto_region 35 with (fail)
          go_region_held3 (fun W' => W'.cell? ⟨oa, 4, none⟩ = some (.slice C cl.length cc)) (go_keep) (first
            | (go_at_call 16; go_must (refine (i2_failP IPc.out.drew HS.out.pages FW.out.2 C cc cl HC.out _ rfl).mono ?_); rintro e w1 ⟨rfl, hq, hk⟩; rw [HSV.out]; have n1_ := Aside0.mk (hk _ _ KO.out); clear KO hk; have KO := n1_; clear n1_; obtain ⟨z0, z1, z2, z3, z4⟩ := cell51 KO.out; clear IPc; have IPc := Aside0.mk hq; clear hq)
            | (go_at_call 29; go_must (refine (i2_failR IPc.out HS.out.pagesR FW.out.1 C cc cl HC.out _ rfl).mono ?_); rintro e w1 ⟨rfl, hq, hk⟩; rw [(HS.out.fail cl).1, HSV.out]; have n1_ := Aside0.mk (hk _ _ KO.out); clear KO hk; have KO := n1_; clear n1_; obtain ⟨z0, z1, z2, z3, z4⟩ := cell51 KO.out; clear IPc; have IPc := Aside0.mk hq; clear hq))
          go_upto_region 45 with (fail)
          obtain ⟨S1, R1, HS1, IP1⟩ := pack ((HS.out.fail cl).2.mono (Nat.zero_le (i + 1))) IPc.out
          clear IPc HS FW HSV
          obtain ⟨rA, rc, rB, rd_, hrc⟩ := IP1.out.cells
          have HRC := Aside0.mk hrc
          obtain ⟨x0, x1, x2, x3⟩ := cell55 hrc
          clear hrc
          go_upto_region 45 with (fail)
          go_region_held3 (fun W' => W'.cell? ⟨r, 1, none⟩ = some (.slice rB R1.float.length rd_) ∧ W'.cell? ⟨r, 2, none⟩ = some (.bool R1.dead)) (go_keep) (first
            | (go_at_call 21; go_must (refine (i2_halted' IP1.out.drew (b := R1.dead) HS1.out.dead.symm).mono ?_); rintro e w1 ⟨rfl, hq, hb⟩; have n1_ := Aside0.mk ((hb.block r (blk_lt HRC.out)).trans HRC.out); clear HRC hb; have HRC := n1_; clear n1_; obtain ⟨y0, y1, y2, y3⟩ := cell55 HRC.out; clear IP1; have IP1 := Aside0.mk hq; clear hq)
            | (go_at_call 19; go_must (refine (i2_afloat' IP1.out (b := R1.float.length) (by rw [HS1.out.afl])).mono ?_); rintro e w1 ⟨rfl, hq, hb⟩; have n1_ := Aside0.mk ((hb.block r (blk_lt HRC.out)).trans HRC.out); clear HRC hb; have HRC := n1_; clear n1_; obtain ⟨y0, y1, y2, y3⟩ := cell55 HRC.out; clear IP1; have IP1 := Aside0.mk hq; clear hq)
            | (go_at_call 23; go_must (refine (i2_pages' IP1.out (b := n) (by rw [HS1.out.len])).mono ?_); rintro e w1 ⟨rfl, hq, hb⟩; have n1_ := Aside0.mk ((hb.block r (blk_lt HRC.out)).trans HRC.out); clear HRC hb; have HRC := n1_; clear n1_; obtain ⟨y0, y1, y2, y3⟩ := cell55 HRC.out; clear IP1; have IP1 := Aside0.mk hq; clear hq))
          go_wp2
          go_roundg kk
          case measure => omega
          case rel =>
            refine ⟨i + 1, p, _, _, rfl, ?_, ⟨by have := HJ.out; have := HN.out; omega⟩, HS1, IP1⟩
            rw [Value.int.injEq]; refine ⟨rfl, ?_⟩; have := HN.out; have := L1.out; first | (rw [IntKind.wrap_i64]; omega) | (unfold wrap64; omega)
        have k5f : (kd == 5) = false := beq_eq_false_iff_ne.2 k5
        clear k5
        by_cases k6 : kd = 6
        · subst k6
          clear k1f k2f k3f k4f k5f
          have HWF : Aside0 (WellS (faS S []) n 0) := ⟨fa_nil_well HS.out.pages HS.out.len⟩
          have HWS : Aside0 (pagesOk (storeS (faS S []) 0 (fill ⟨#[110, 111, 116, 32, 105, 110, 32, 116, 104, 101, 32, 116, 119, 105, 110]⟩)) ∧ (storeS (faS S []) 0 (fill ⟨#[110, 111, 116, 32, 105, 110, 32, 116, 104, 101, 32, 116, 119, 105, 110]⟩)).afl.length ≤ 1000) := ⟨by
            have hw := (HWF.out.st (n := 0) (b := fill ⟨#[110, 111, 116, 32, 105, 110, 32, 116, 104, 101, 32, 116, 119, 105, 110]⟩) (by decide) (by have := N0.out; omega) (fill_size _))
            have e : storeS (faS S []) 0 (fill ⟨#[110, 111, 116, 32, 105, 110, 32, 116, 104, 101, 32, 116, 119, 105, 110]⟩) = stS (faS S []) 0 (fill ⟨#[110, 111, 116, 32, 105, 110, 32, 116, 104, 101, 32, 116, 119, 105, 110]⟩) := by
              unfold storeS
              rw [if_pos (HWF.out.may (by decide) (by have := N0.out; omega)), if_pos (fill_size _), if_neg (fun hx => by have := hx.1; rw [HWF.out.halts] at this; cases this)]
              unfold stS
              rw [HWF.out.after, show max (wrap64 (0 - 1)) 0 = 0 from by unfold wrap64; decide]
            rw [e]
            exact ⟨hw.pages, by rw [hw.few]; decide⟩⟩
          go_upto_region 45 with (first
            | (go_at_call 22; go_must (with_reducible refine (i2_twin IPc.out HS.out.pages (by rw [HS.out.len]; have := N1.out; omega) FW.out.2 HS.out.last).mono ?_); rintro e w1 ⟨t, rfl, hq, hk⟩; have n1_ := Aside0.mk (hk _ _ KO.out); clear KO hk; have KO := n1_; clear n1_; clear IPc; have IJ := Aside0.mk hq; clear hq)
            | (go_at_call 16; go_must (with_reducible refine (i3_fail IJ.out HS.out.pages FW.out.2).mono ?_); rintro e w1 ⟨rfl, hq, hk⟩; have n1_ := Aside0.mk (hk _ _ KO.out); clear KO hk; have KO := n1_; clear n1_; clear IJ; have IJ := Aside0.mk hq; clear hq)
            | (go_at_call 13; go_must (refine (i3_fill IJ.out ⟨#[110, 111, 116, 32, 105, 110, 32, 116, 104, 101, 32, 116, 119, 105, 110]⟩).mono ?_); rintro e w1 ⟨rfl, hq, hk⟩; have n1_ := Aside0.mk (hk _ _ KO.out); clear KO hk; have KO := n1_; clear n1_; clear IJ; have IJ := Aside0.mk hq; clear hq)
            | (go_at_call 14; go_must (with_reducible refine (i3_store IJ.out 0 _ (by decide) (by rw [HWF.out.few]; decide)).mono ?_); rintro e w1 ⟨rfl, hq, hk⟩; have n1_ := Aside0.mk (hk _ _ KO.out); clear KO hk; have KO := n1_; clear n1_; clear IJ; have IJ := Aside0.mk hq; clear hq)
            | (go_at_call 15; go_must (with_reducible refine (i3_settle IJ.out HWS.out.1 HWS.out.2).mono ?_); rintro e w1 ⟨rfl, hq, hk⟩; have n1_ := Aside0.mk (hk _ _ KO.out); clear KO hk; have KO := n1_; clear n1_; clear IJ; have IJ := Aside0.mk hq; clear hq))
          obtain ⟨S1, R1, HS1, IP1⟩ := pack (HS.out.mono (Nat.le_succ i)) IJ.out.drop
          clear IJ HS FW HWF HWS
          obtain ⟨rA, rc, rB, rd_, hrc⟩ := IP1.out.cells
          have HRC := Aside0.mk hrc
          obtain ⟨x0, x1, x2, x3⟩ := cell55 hrc
          clear hrc
          go_upto_region 45 with (fail)
          go_region_held3 (fun W' => W'.cell? ⟨r, 1, none⟩ = some (.slice rB R1.float.length rd_) ∧ W'.cell? ⟨r, 2, none⟩ = some (.bool R1.dead)) (go_keep) (first
            | (go_at_call 21; go_must (refine (i2_halted' IP1.out.drew (b := R1.dead) HS1.out.dead.symm).mono ?_); rintro e w1 ⟨rfl, hq, hb⟩; have n1_ := Aside0.mk ((hb.block r (blk_lt HRC.out)).trans HRC.out); clear HRC hb; have HRC := n1_; clear n1_; obtain ⟨y0, y1, y2, y3⟩ := cell55 HRC.out; clear IP1; have IP1 := Aside0.mk hq; clear hq)
            | (go_at_call 19; go_must (refine (i2_afloat' IP1.out (b := R1.float.length) (by rw [HS1.out.afl])).mono ?_); rintro e w1 ⟨rfl, hq, hb⟩; have n1_ := Aside0.mk ((hb.block r (blk_lt HRC.out)).trans HRC.out); clear HRC hb; have HRC := n1_; clear n1_; obtain ⟨y0, y1, y2, y3⟩ := cell55 HRC.out; clear IP1; have IP1 := Aside0.mk hq; clear hq)
            | (go_at_call 23; go_must (refine (i2_pages' IP1.out (b := n) (by rw [HS1.out.len])).mono ?_); rintro e w1 ⟨rfl, hq, hb⟩; have n1_ := Aside0.mk ((hb.block r (blk_lt HRC.out)).trans HRC.out); clear HRC hb; have HRC := n1_; clear n1_; obtain ⟨y0, y1, y2, y3⟩ := cell55 HRC.out; clear IP1; have IP1 := Aside0.mk hq; clear hq))
          go_wp2
          go_roundg kk
          case measure => omega
          case rel =>
            refine ⟨i + 1, t, _, _, rfl, ?_, ⟨by have := HJ.out; have := HN.out; omega⟩, HS1, IP1⟩
            rw [Value.int.injEq]; refine ⟨rfl, ?_⟩; have := HN.out; have := L1.out; first | (rw [IntKind.wrap_i64]; omega) | (unfold wrap64; omega)
        have k6f : (kd == 6) = false := beq_eq_false_iff_ne.2 k6
        clear k6
        go_upto_region 45 with (fail)
        obtain ⟨S1, R1, HS1, IP1⟩ := pack (HS.out.mono (Nat.le_succ i)) IPc.out
        clear IPc HS FW
        obtain ⟨rA, rc, rB, rd_, hrc⟩ := IP1.out.cells
        have HRC := Aside0.mk hrc
        obtain ⟨x0, x1, x2, x3⟩ := cell55 hrc
        clear hrc
        go_upto_region 45 with (fail)
        go_region_held3 (fun W' => W'.cell? ⟨r, 1, none⟩ = some (.slice rB R1.float.length rd_) ∧ W'.cell? ⟨r, 2, none⟩ = some (.bool R1.dead)) (go_keep) (first
          | (go_at_call 21; go_must (refine (i2_halted' IP1.out.drew (b := R1.dead) HS1.out.dead.symm).mono ?_); rintro e w1 ⟨rfl, hq, hb⟩; have n1_ := Aside0.mk ((hb.block r (blk_lt HRC.out)).trans HRC.out); clear HRC hb; have HRC := n1_; clear n1_; obtain ⟨y0, y1, y2, y3⟩ := cell55 HRC.out; clear IP1; have IP1 := Aside0.mk hq; clear hq)
          | (go_at_call 19; go_must (refine (i2_afloat' IP1.out (b := R1.float.length) (by rw [HS1.out.afl])).mono ?_); rintro e w1 ⟨rfl, hq, hb⟩; have n1_ := Aside0.mk ((hb.block r (blk_lt HRC.out)).trans HRC.out); clear HRC hb; have HRC := n1_; clear n1_; obtain ⟨y0, y1, y2, y3⟩ := cell55 HRC.out; clear IP1; have IP1 := Aside0.mk hq; clear hq)
          | (go_at_call 23; go_must (refine (i2_pages' IP1.out (b := n) (by rw [HS1.out.len])).mono ?_); rintro e w1 ⟨rfl, hq, hb⟩; have n1_ := Aside0.mk ((hb.block r (blk_lt HRC.out)).trans HRC.out); clear HRC hb; have HRC := n1_; clear n1_; obtain ⟨y0, y1, y2, y3⟩ := cell55 HRC.out; clear IP1; have IP1 := Aside0.mk hq; clear hq))
        go_wp2
        go_roundg kk
        case measure => omega
        case rel =>
          refine ⟨i + 1, p, _, _, rfl, ?_, ⟨by have := HJ.out; have := HN.out; omega⟩, HS1, IP1⟩
          rw [Value.int.injEq]; refine ⟨rfl, ?_⟩; have := HN.out; have := L1.out; first | (rw [IntKind.wrap_i64]; omega) | (unfold wrap64; omega)
    · have d1 : decide ((i : Int) < (l.length : Int)) = false := decide_eq_false (by omega)
      have d2 : decide (i < l.length) = false := decide_eq_false hjn
      have FW : Aside0 (R.float.length ≤ 1000 ∧ S.afl.length ≤ 1000) := ⟨by rw [HS.out.afl]; have := HS.out.few; have := HJ.out; have := L1.out; omega⟩
      clear hjn
      go_wp2_with (first
        | (go_at_call 16; go_must (with_reducible refine (i2_failP IPc.out HS.out.pages FW.out.2 none 0 [] (Kd.C_nil _ _) 0 rfl).mono ?_); rintro e w1 ⟨rfl, hq, hk⟩; clear IPc hk; have IPc := Aside0.mk hq; clear hq)
        | (go_at_call 29; go_must (with_reducible refine (i2_failR IPc.out HS.out.pagesR FW.out.1 none 0 [] (Kd.C_nil _ _) 0 rfl).mono ?_); rintro e w1 ⟨rfl, hq, hk⟩; clear IPc hk; have IPc := Aside0.mk hq; clear hq))
      obtain ⟨S1, R1, HS1, IP1⟩ := pack (HS.out.fail []).2 IPc.out
      clear IPc HS FW
      go_loopg [18] n (fun kq v18 w' => ∃ j : Nat, v18 = .int .i64 j ∧ Aside0 (j ≤ n ∧ n ≤ j + kq) ∧ Aside0 (Is2 w0 w' p S1 r R1))
      case atStart => exact ⟨0, rfl, ⟨Nat.zero_le _, by omega⟩, IP1⟩
      case round =>
        clear IP1
        obtain ⟨j, rfl, HK, IPc⟩ := hrel
        by_cases hjn : j < n
        · have d1 : decide ((j : Int) < (n : Int)) = true := decide_eq_true (by omega)
          have d2 : decide (j < n) = true := decide_eq_true hjn
          cases gk with
          | zero => have := HK.out; omega
          | succ kk =>
            have HN := Aside0.mk hjn
            clear hjn
            obtain ⟨lb, le, hle⟩ : ∃ lb le, loadE S1 (j : Int) = (lb, le) := ⟨_, _, rfl⟩
            have HLD := Aside0.mk hle
            clear hle
            go_wp2_with (first
              | (go_at_call 17; go_must (with_reducible refine (i2_loadP IPc.out j (Go.WalkArith.wf_i64 (by have := HN.out; have := N1.out; omega))).mono ?_); rintro e w1 ⟨rfl, hq, hk⟩; rw [HLD.out]; clear IPc hk; have IPc := Aside0.mk hq; clear hq)
              | (go_at_call 25; go_must (with_reducible refine (i2_loadR IPc.out j (by rw [HS1.out.afl]; have := HS1.out.few; omega)).mono ?_); rintro e w1 ⟨rfl, hq, hk⟩; rw [HS1.out.load, HLD.out]; clear IPc hk; have IPc := Aside0.mk hq; clear hq))
            go_roundg kk
            case measure => omega
            case rel =>
              refine ⟨j + 1, ?_, ⟨by have := HK.out; have := HN.out; omega⟩, IPc⟩
              rw [Value.int.injEq]; refine ⟨rfl, ?_⟩; have := HN.out; have := N1.out; first | (rw [IntKind.wrap_i64]; omega) | (unfold wrap64; omega)
        · have d1 : decide ((j : Int) < (n : Int)) = false := decide_eq_false (by omega)
          have d2 : decide (j < n) = false := decide_eq_false hjn
          clear hjn
          go_wp2
          go_ret
          exact ⟨by first | rfl | simp, by have HB := Aside0.mk IPc.out.1; repeat (first | (with_reducible first | exact HB.out | apply below_alloc | apply pw_below_drewN | apply below_drew1) | exact HB.out)⟩
theorem plays_any (w0 : World) (n : Int) (A : Option Addr) (c : Nat) (l : List OpD) (wn : (Lit.int .i64 n).wf = true) (hr : OpsAt w0 A l) (hc : l.length ≤ c) :
    Calls Try.prog 10 #[.int .i64 n, .slice A l.length c] w0 fun e w' => e = .returned (.bool true) ∧ Below w0.heap.size w0 w' := by
  by_cases h : (20 < n ∧ n ≤ 200) ∨ 80 < l.length
  · exact plays_early w0 n A c l h
  · by_cases h1 : n < 1 ∨ 200 < n
    · exact plays_nil w0 n A c l h1 (by omega)
    · obtain ⟨n, rfl⟩ : ∃ m : Nat, n = m := ⟨n.toNat, by omega⟩
      exact plays_main w0 n A c l (by omega) (by omega) (by omega) hr
end Go.Proofs.Ytcmldpacgbhfmaa.V
