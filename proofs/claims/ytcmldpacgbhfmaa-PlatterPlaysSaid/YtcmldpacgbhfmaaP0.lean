/- A platter in memory: its six fields, its pages, its map, what is afloat. -/
import Derived.Test.YtcmldpacgbhfmaaM
import Derived.Test.YtcmldpacgbhfmaaProg
import Derived.Test.YtcmldpacgbhfmaaWWords
import Derived.Test.YtcmldpacgbhfmaaWLast
import Derived.Test.YtcmldpacgbhfmaaWKept
import Derived.Test.YtcmldpacgbhfmaaWApart
import Derived.Test.YtcmldpacgbhfmaaWAt
import Derived.Test.YtcmldpacgbhfmaaWMore
import Derived.WalkKit
namespace Go.Proofs.Ytcmldpacgbhfmaa.V
open Go.RowKit Go.Proofs.YtcmldpacgbhfmaaW.PrintWords Go.Proofs.YtcmldpacgbhfmaaW.PrintLast Go.Proofs.YtcmldpacgbhfmaaW.PrintMore
set_option linter.unusedVariables false
set_option linter.unusedSimpArgs false

/-- what is afloat: a page's number, its bytes -/
structure S65 where
  f0 : Int
  f1 : ByteArray
def k65 : Kd S65 := Kd.iso (Kd.pair (Kd.int .i64) Kd.string) (fun x : S65 => (x.f0, x.f1))
theorem k65_mkM (w : World) (base : Nat) (ok : Nat → Prop) (x : S65) : k65.M w base ok x [.int .i64 x.f0, .string x.f1] := ⟨[.int .i64 x.f0], [.string x.f1], rfl, rfl, rfl⟩
theorem k65_open {w : World} {x : S65} {cs : List Value} (h : k65.K w x cs) : cs = [.int .i64 x.f0, .string x.f1] := by
  obtain ⟨_, _, rfl, rfl, rfl⟩ := h
  exact rfl
/-- a platter as plain data -/
structure PS where
  safe : List ByteArray
  last : Int → Option ByteArray
  afl : List S65
  halts : Bool
  after : Int
  halted : Bool

def IsP (base : Nat) (F : Nat → Prop) (w : World) (g : Nat) (S : PS) : Prop :=
  ∃ v m B, w.heap[g]? = some (.cells #[v, .map (some m), B, .bool S.halts, .int .i64 S.after, .bool S.halted] 62 (0, 0)) ∧
    base ≤ g ∧ F g ∧ base ≤ m ∧ F m ∧ Kd.R Kd.string 9 w base F v S.safe ∧ Kd.R k65 65 w base F B S.afl ∧ IsLast w m S.last

section
variable {base : Nat} {F F' : Nat → Prop} {w w' : World} {g : Nat} {S : PS}
theorem IsP.mono (h : IsP base F w g S) (hF : ∀ k, F k → F' k) : IsP base F' w g S := by
  obtain ⟨v, m, B, h1, h2, h3, h4, h5, h6, h7, h8⟩ := h
  exact ⟨v, m, B, h1, h2, hF _ h3, h4, hF _ h5, Kd.R_mono h6 hF, Kd.R_mono h7 hF, h8⟩
theorem IsP.lt (h : IsP base F w g S) : g < w.heap.size := by
  obtain ⟨v, m, B, h1, _⟩ := h
  exact blk_lt h1
theorem IsP.step (h : IsP base F w g S) (hm : ∀ k, F k → k < w.heap.size → w'.heap[k]? = w.heap[k]?) : IsP base F w' g S := by
  obtain ⟨v, m, B, h1, h2, h3, h4, h5, h6, h7, h8⟩ := h
  exact ⟨v, m, B, (hm g h3 (blk_lt h1)).trans h1, h2, h3, h4, h5, Kd.R_step h6 hm, Kd.R_step h7 hm, h8.at (hm m h5 h8.lt)⟩
theorem IsP.below (h : IsP base F w g S) (hb : Below w.heap.size w w') : IsP base F w' g S := h.step (fun k _ hk => hb.block k hk)
theorem IsP.kept {T : Nat → Prop} (h : IsP base F w g S) (hk : Kept w w' T) (hn : ∀ k, F k → ¬ T k) : IsP base F w' g S := h.step (fun k hF hlt => hk.2 k hlt (hn k hF))
/-- the fields' cells -/
theorem IsP.cells (h : IsP base F w g S) : ∃ A c m B d, w.heap[g]? = some (.cells #[.slice A S.safe.length c, .map (some m), .slice B S.afl.length d, .bool S.halts, .int .i64 S.after, .bool S.halted] 62 (0, 0)) ∧
    base ≤ g ∧ F g ∧ base ≤ m ∧ F m ∧ Kd.R Kd.string 9 w base F (.slice A S.safe.length c) S.safe ∧ Kd.R k65 65 w base F (.slice B S.afl.length d) S.afl ∧ IsLast w m S.last := by
  obtain ⟨v, m, B, h1, h2, h3, h4, h5, h6, h7, h8⟩ := h
  obtain ⟨A, c, rfl⟩ := Kd.R_slice h6
  obtain ⟨B', d, rfl⟩ := Kd.R_slice h7
  exact ⟨A, c, m, B', d, h1, h2, h3, h4, h5, h6, h7, h8⟩
end
/-- the reading of a block's cell -/
theorem cell62 {w : World} {g : Nat} {a b c d e f : Value} (h : w.heap[g]? = some (.cells #[a, b, c, d, e, f] 62 (0, 0))) :
    w.cell? ⟨g, 0, none⟩ = some a ∧ w.cell? ⟨g, 1, none⟩ = some b ∧ w.cell? ⟨g, 2, none⟩ = some c ∧ w.cell? ⟨g, 3, none⟩ = some d ∧ w.cell? ⟨g, 4, none⟩ = some e ∧ w.cell? ⟨g, 5, none⟩ = some f :=
  ⟨(blk_cell h 0).trans rfl, (blk_cell h 1).trans rfl, (blk_cell h 2).trans rfl, (blk_cell h 3).trans rfl, (blk_cell h 4).trans rfl, (blk_cell h 5).trans rfl⟩

set_option maxHeartbeats 8000000 in
set_option maxRecDepth 100000 in
theorem halted_any {base : Nat} {F : Nat → Prop} {w : World} {g : Nat} {S : PS} (h : IsP base F w g S) :
    Calls Try.prog 21 #[.pointer (some ⟨g, 0, none⟩)] w fun e w' => e = .returned (.bool S.halted) ∧ Below w.heap.size w w' := by
  obtain ⟨A, c, m, B, d, h1, _⟩ := h.cells
  obtain ⟨c0, c1, c2, c3, c4, c5⟩ := cell62 h1
  have HB := Aside0.mk (Below.refl w.heap.size w)
  go_enter Try.func21, Try.ntmps21
  go_wp2
  go_ret
  exact ⟨by first | rfl | simp, by repeat (first | (with_reducible first | exact HB.out | apply below_alloc | apply pw_below_drewN | apply below_drew1) | exact HB.out)⟩
/-- may -/
def mayE (S : PS) (n : Int) : Int := if S.halted = true then 7 else if n < 0 then 6 else if (S.safe.length : Int) ≤ n then 6 else 0
set_option maxHeartbeats 8000000 in
set_option maxRecDepth 100000 in
theorem may_any {base : Nat} {F : Nat → Prop} {w : World} {g : Nat} {S : PS} (h : IsP base F w g S) (n : Int) :
    Calls Try.prog 32 #[.pointer (some ⟨g, 0, none⟩), .int .i64 n] w fun e w' => e = .returned (.int .i64 (mayE S n)) ∧ Below w.heap.size w w' := by
  have HP := Aside0.mk h
  have HB := Aside0.mk (Below.refl w.heap.size w)
  obtain ⟨A, c, m, B, d, h1, _⟩ := h.cells
  have H1 := Aside0.mk h1
  unfold mayE
  cases hh : S.halted with
  | true =>
    go_enter Try.func32, Try.ntmps32
    go_wp2_with (first | (go_at_call 21; (with_reducible refine (halted_any HP.out).mono ?_); rintro e w1 ⟨rfl, hb⟩; rw [hh]; have n0_ := Aside0.mk (below_step (by repeat (first | (with_reducible first | exact HB.out | apply below_alloc | apply pw_below_drewN | apply below_drew1) | exact HB.out)) hb); clear HB; have HB := n0_; clear n0_))
    go_ret
    exact ⟨by first | rfl | simp, by repeat (first | (with_reducible first | exact HB.out | apply below_alloc | apply pw_below_drewN | apply below_drew1) | exact HB.out)⟩
  | false =>
    by_cases hn : n < 0
    · have hn1 := decide_eq_true hn
      simp only [Bool.false_eq_true, if_false, if_pos hn]
      clear hn
      go_enter Try.func32, Try.ntmps32
      go_wp2_with (first | (go_at_call 21; (with_reducible refine (halted_any HP.out).mono ?_); rintro e w1 ⟨rfl, hb⟩; rw [hh]; have c0 := (cell62 ((hb.block g (blk_lt H1.out)).trans H1.out)).1; have n0_ := Aside0.mk (below_step (by repeat (first | (with_reducible first | exact HB.out | apply below_alloc | apply pw_below_drewN | apply below_drew1) | exact HB.out)) hb); clear HB; have HB := n0_; clear n0_))
      go_ret
      exact ⟨by first | rfl | simp, by repeat (first | (with_reducible first | exact HB.out | apply below_alloc | apply pw_below_drewN | apply below_drew1) | exact HB.out)⟩
    · have hn1 := decide_eq_false hn
      by_cases hl : (S.safe.length : Int) ≤ n
      · have hl1 := decide_eq_true hl
        simp only [Bool.false_eq_true, if_false, if_neg hn, if_pos hl]
        clear hn hl
        go_enter Try.func32, Try.ntmps32
        go_wp2_with (first | (go_at_call 21; (with_reducible refine (halted_any HP.out).mono ?_); rintro e w1 ⟨rfl, hb⟩; rw [hh]; have c0 := (cell62 ((hb.block g (blk_lt H1.out)).trans H1.out)).1; have n0_ := Aside0.mk (below_step (by repeat (first | (with_reducible first | exact HB.out | apply below_alloc | apply pw_below_drewN | apply below_drew1) | exact HB.out)) hb); clear HB; have HB := n0_; clear n0_))
        go_ret
        exact ⟨by first | rfl | simp, by repeat (first | (with_reducible first | exact HB.out | apply below_alloc | apply pw_below_drewN | apply below_drew1) | exact HB.out)⟩
      · have hl1 := decide_eq_false hl
        simp only [Bool.false_eq_true, if_false, if_neg hn, if_neg hl]
        clear hn hl
        go_enter Try.func32, Try.ntmps32
        go_wp2_with (first | (go_at_call 21; (with_reducible refine (halted_any HP.out).mono ?_); rintro e w1 ⟨rfl, hb⟩; rw [hh]; have c0 := (cell62 ((hb.block g (blk_lt H1.out)).trans H1.out)).1; have n0_ := Aside0.mk (below_step (by repeat (first | (with_reducible first | exact HB.out | apply below_alloc | apply pw_below_drewN | apply below_drew1) | exact HB.out)) hb); clear HB; have HB := n0_; clear n0_))
        go_ret
        exact ⟨by first | rfl | simp, by repeat (first | (with_reducible first | exact HB.out | apply below_alloc | apply pw_below_drewN | apply below_drew1) | exact HB.out)⟩
set_option maxHeartbeats 8000000 in
set_option maxRecDepth 100000 in
theorem pages_any {base : Nat} {F : Nat → Prop} {w : World} {g : Nat} {S : PS} (h : IsP base F w g S) :
    Calls Try.prog 23 #[.pointer (some ⟨g, 0, none⟩)] w fun e w' => e = .returned (.int .i64 S.safe.length) ∧ Below w.heap.size w w' := by
  obtain ⟨A, c, m, B, d, h1, _⟩ := h.cells
  obtain ⟨c0, c1, c2, c3, c4, c5⟩ := cell62 h1
  have HB := Aside0.mk (Below.refl w.heap.size w)
  go_enter Try.func23, Try.ntmps23
  go_wp2
  go_ret
  exact ⟨by first | rfl | simp, by repeat (first | (with_reducible first | exact HB.out | apply below_alloc | apply pw_below_drewN | apply below_drew1) | exact HB.out)⟩
set_option maxHeartbeats 8000000 in
set_option maxRecDepth 100000 in
theorem afloat_any {base : Nat} {F : Nat → Prop} {w : World} {g : Nat} {S : PS} (h : IsP base F w g S) :
    Calls Try.prog 19 #[.pointer (some ⟨g, 0, none⟩)] w fun e w' => e = .returned (.int .i64 S.afl.length) ∧ Below w.heap.size w w' := by
  obtain ⟨A, c, m, B, d, h1, _⟩ := h.cells
  obtain ⟨c0, c1, c2, c3, c4, c5⟩ := cell62 h1
  have HB := Aside0.mk (Below.refl w.heap.size w)
  go_enter Try.func19, Try.ntmps19
  go_wp2
  go_ret
  exact ⟨by first | rfl | simp, by repeat (first | (with_reducible first | exact HB.out | apply below_alloc | apply pw_below_drewN | apply below_drew1) | exact HB.out)⟩
/-- Load -/
def loadE (S : PS) (n : Int) : ByteArray × Int := if mayE S n = 0 then ((S.last n).getD (S.safe.getD n.toNat ⟨#[]⟩), 0) else (⟨#[]⟩, mayE S n)
theorem mayE_ok {S : PS} {n : Int} (h : mayE S n = 0) : S.halted = false ∧ 0 ≤ n ∧ n < S.safe.length := by
  unfold mayE at h
  cases hh : S.halted with
  | true => rw [hh, if_pos rfl] at h; cases h
  | false =>
    rw [hh, if_neg (by decide)] at h
    by_cases h1 : n < 0
    · rw [if_pos h1] at h; cases h
    · rw [if_neg h1] at h
      by_cases h2 : (S.safe.length : Int) ≤ n
      · rw [if_pos h2] at h; cases h
      · exact ⟨rfl, by omega, by omega⟩
theorem mayE_cases (S : PS) (n : Int) : mayE S n = 0 ∨ mayE S n = 6 ∨ mayE S n = 7 := by
  unfold mayE
  split
  · exact .inr (.inr rfl)
  · split
    · exact .inr (.inl rfl)
    · split
      · exact .inr (.inl rfl)
      · exact .inl rfl
theorem zero9 (w : World) : (zeroValue 9).run Try.prog w = .ok (.string ⟨#[]⟩) w := by kernel_rfl
set_option maxHeartbeats 8000000 in
set_option maxRecDepth 100000 in
theorem load_any {base : Nat} {F : Nat → Prop} {w : World} {g : Nat} {S : PS} (h : IsP base F w g S) (n : Int) (wn : (Lit.int .i64 n).wf = true) :
    Calls Try.prog 17 #[.pointer (some ⟨g, 0, none⟩), .int .i64 n] w fun e w' => e = .returned (.tuple #[.string (loadE S n).1, .int .i64 (loadE S n).2]) ∧ Below w.heap.size w w' := by
  have HP := Aside0.mk h
  have HB := Aside0.mk (Below.refl w.heap.size w)
  obtain ⟨A, c, m, B, d, h1, _, _, _, _, h6, _, h8⟩ := h.cells
  have H1 := Aside0.mk h1
  have H6 := Aside0.mk h6
  have H8 := Aside0.mk h8
  clear h1 h6 h8
  unfold loadE
  by_cases hm : mayE S n = 0
  · obtain ⟨_, hn0, hn1⟩ := mayE_ok hm
    rw [if_pos hm]
    cases hl : S.last n with
    | some b =>
      go_enter Try.func17, Try.ntmps17
      go_wp2_with (first | (go_at_call 32; (with_reducible refine (may_any HP.out n).mono ?_); rintro e w1 ⟨rfl, hb⟩; rw [hm]; obtain ⟨c0, c1, c2, c3, c4, c5⟩ := cell62 ((hb.block g (blk_lt H1.out)).trans H1.out); have hlk := (H8.out.at (hb.block m H8.out.lt)).look Try.underlying59 Try.underlying3 (zero9 _) n wn; rw [hl] at hlk; have n0_ := Aside0.mk (below_step (by repeat (first | (with_reducible first | exact HB.out | apply below_alloc | apply pw_below_drewN | apply below_drew1) | exact HB.out)) hb); clear HB; have HB := n0_; clear n0_))
      go_ret2
      exact ⟨by first | rfl | simp, by repeat (first | (with_reducible first | exact HB.out | apply below_alloc | apply pw_below_drewN | apply below_drew1) | exact HB.out)⟩
    | none =>
      have hn2 := decide_eq_true hn0
      have hn3 := decide_eq_true hn1
      go_enter Try.func17, Try.ntmps17
      go_wp2_with (first | (go_at_call 32; (with_reducible refine (may_any HP.out n).mono ?_); rintro e w1 ⟨rfl, hb⟩; rw [hm]; obtain ⟨c0, c1, c2, c3, c4, c5⟩ := cell62 ((hb.block g (blk_lt H1.out)).trans H1.out); have hlk := (H8.out.at (hb.block m H8.out.lt)).look Try.underlying59 Try.underlying3 (zero9 _) n wn; rw [hl] at hlk; obtain ⟨ad, e0, hx⟩ := Kd.at_string (Kd.R_reads' (Kd.R_below H6.out hb)).2.2 n hn0 hn1; cases e0; have n0_ := Aside0.mk (below_step (by repeat (first | (with_reducible first | exact HB.out | apply below_alloc | apply pw_below_drewN | apply below_drew1) | exact HB.out)) hb); clear HB; have HB := n0_; clear n0_))
      go_ret2
      exact ⟨by first | rfl | simp, by repeat (first | (with_reducible first | exact HB.out | apply below_alloc | apply pw_below_drewN | apply below_drew1) | exact HB.out)⟩
  · rw [if_neg hm]
    rcases (mayE_cases S n).resolve_left hm with hm | hm
    all_goals
      rw [hm]
      go_enter Try.func17, Try.ntmps17
      go_wp2_with (first | (go_at_call 32; (with_reducible refine (may_any HP.out n).mono ?_); rintro e w1 ⟨rfl, hb⟩; rw [hm]; have n0_ := Aside0.mk (below_step (by repeat (first | (with_reducible first | exact HB.out | apply below_alloc | apply pw_below_drewN | apply below_drew1) | exact HB.out)) hb); clear HB; have HB := n0_; clear n0_))
      go_ret2
      exact ⟨by first | rfl | simp, by repeat (first | (with_reducible first | exact HB.out | apply below_alloc | apply pw_below_drewN | apply below_drew1) | exact HB.out)⟩
end Go.Proofs.Ytcmldpacgbhfmaa.V
