/- A platter: its fields set; Halt, Store, sink. -/
import Derived.Test.YtcmldpacgbhfmaaP0
import Derived.Great.Walk
namespace Go.Proofs.Ytcmldpacgbhfmaa.V
open Go.RowKit Go.Proofs.YtcmldpacgbhfmaaW.PrintWords Go.Proofs.YtcmldpacgbhfmaaW.PrintLast Go.Proofs.YtcmldpacgbhfmaaW.PrintMore
set_option linter.unusedVariables false
set_option linter.unusedSimpArgs false

section
variable {base : Nat} {F F' : Nat → Prop} {w w' : World} {g : Nat} {S : PS}
theorem last_ne {m : Nat} {f : Int → Option ByteArray} (h : IsLast w m f) {cs : Array Value} {t : TypeId} (hg : w.heap[g]? = some (.cells cs t (0, 0))) : m ≠ g := by
  rintro rfl
  obtain ⟨es, c, h1, _⟩ := h
  rw [hg] at h1; cases h1
theorem IsP.set3 (h : IsP base F w g S) (b : Bool) : IsP base F (w.setCell ⟨g, 3, none⟩ (.bool b)) g { S with halts := b } := by
  obtain ⟨v, m, B, h1, h2, h3, h4, h5, h6, h7, h8⟩ := h
  refine ⟨v, m, B, by simpa using blk_set h1 3 (.bool b), h2, h3, h4, h5, Kd.R_set h6 h1 (by intro q hq; simp [Kd.string, Kd.scalar] at hq; omega) 3 _, Kd.R_set h7 h1 (by intro q hq; simp [k65, Kd.iso, Kd.pair, Kd.int, Kd.string, Kd.scalar] at hq; omega) 3 _, h8.at (Below.heap_setCell w _ _ m (last_ne h8 h1))⟩
theorem IsP.set4 (h : IsP base F w g S) (b : Int) : IsP base F (w.setCell ⟨g, 4, none⟩ (.int .i64 b)) g { S with after := b } := by
  obtain ⟨v, m, B, h1, h2, h3, h4, h5, h6, h7, h8⟩ := h
  refine ⟨v, m, B, by simpa using blk_set h1 4 (.int .i64 b), h2, h3, h4, h5, Kd.R_set h6 h1 (by intro q hq; simp [Kd.string, Kd.scalar] at hq; omega) 4 _, Kd.R_set h7 h1 (by intro q hq; simp [k65, Kd.iso, Kd.pair, Kd.int, Kd.string, Kd.scalar] at hq; omega) 4 _, h8.at (Below.heap_setCell w _ _ m (last_ne h8 h1))⟩
theorem IsP.set5 (h : IsP base F w g S) (b : Bool) : IsP base F (w.setCell ⟨g, 5, none⟩ (.bool b)) g { S with halted := b } := by
  obtain ⟨v, m, B, h1, h2, h3, h4, h5, h6, h7, h8⟩ := h
  refine ⟨v, m, B, by simpa using blk_set h1 5 (.bool b), h2, h3, h4, h5, Kd.R_set h6 h1 (by intro q hq; simp [Kd.string, Kd.scalar] at hq; omega) 5 _, Kd.R_set h7 h1 (by intro q hq; simp [k65, Kd.iso, Kd.pair, Kd.int, Kd.string, Kd.scalar] at hq; omega) 5 _, h8.at (Below.heap_setCell w _ _ m (last_ne h8 h1))⟩
theorem IsP.ge (h : IsP base F w g S) : base ≤ g := by obtain ⟨v, m, B, h1, h2, _⟩ := h; exact h2
theorem IsP.inF (h : IsP base F w g S) : F g := by obtain ⟨v, m, B, h1, h2, h3, _⟩ := h; exact h3
theorem below_setG {n : Nat} {u : World} (h : Below n u w) (hg : n ≤ g) (j : Nat) (v : Value) : Below n u (w.setCell ⟨g, j, none⟩ v) := h.setCell hg _
end
/-- Halt -/
def haltE (S : PS) (n : Int) : PS := if S.halted = true then S else { S with halts := decide (0 ≤ n), after := max n 0 }
set_option maxHeartbeats 8000000 in
set_option maxRecDepth 100000 in
theorem halt_any {base : Nat} {F : Nat → Prop} {w : World} {g : Nat} {S : PS} (h : IsP base F w g S) (n : Int) :
    Calls Try.prog 20 #[.pointer (some ⟨g, 0, none⟩), .int .i64 n] w fun e w' => e = .returned (.tuple #[]) ∧ IsP base F w' g (haltE S n) ∧ Kept w w' F ∧ (base ≤ w.heap.size → Below base w w') := by
  have HP := Aside0.mk h
  have HB := Aside0.mk (Below.refl w.heap.size w)
  unfold haltE
  cases hh : S.halted with
  | true =>
    go_enter Try.func20, Try.ntmps20
    go_wp2_with (first | (go_at_call 21; (with_reducible refine (halted_any HP.out).mono ?_); rintro e w1 ⟨rfl, hb⟩; rw [hh]; have n0_ := Aside0.mk (below_step (by repeat (first | (with_reducible first | exact HB.out | apply below_alloc | apply pw_below_drewN | apply below_drew1) | exact HB.out)) hb); clear HB; have HB := n0_; clear n0_))
    refine Go.Great.bodyPost_end0 rfl rfl ?_
    exact ⟨rfl, HP.out.below HB.out, Kept.of_below HB.out _, fun hle => HB.out.mono hle⟩
  | false =>
    simp only [Bool.false_eq_true, if_false]
    go_enter Try.func20, Try.ntmps20
    go_wp2_with (first | (go_at_call 21; (with_reducible refine (halted_any HP.out).mono ?_); rintro e w1 ⟨rfl, hb⟩; rw [hh]; obtain ⟨A, c, m, B, d, h1, _⟩ := (HP.out.below hb).cells; have hf3 := blk_frozen h1 3; have hf4 := blk_frozen h1 4; obtain ⟨c0, c1, c2, c3, c4, c5⟩ := cell62 h1; have n0_ := Aside0.mk (below_step (by repeat (first | (with_reducible first | exact HB.out | apply below_alloc | apply pw_below_drewN | apply below_drew1) | exact HB.out)) hb); clear HB; have HB := n0_; clear n0_))
    refine Go.Great.bodyPost_end0 rfl rfl ?_
    have hI := HP.out.below HB.out
    refine ⟨rfl, ?_, ?_, ?_⟩
    · have e := (hI.set3 (decide (0 ≤ n))).set4 (max n 0)
      simp only [hh] at e
      exact e
    · exact ((Kept.of_below HB.out _).setCell (.inl HP.out.inF) _).setCell (.inl HP.out.inF) _
    · exact fun hle => below_setG (below_setG (HB.out.mono hle) HP.out.ge _ _) HP.out.ge _ _

/-! ### Store -/
theorem wpList_mapUpdate_last {P : Program} (w : World) {ops : Array Oper} {rest : List Oper} {o : Oper} {a : Act} {Q : Exit → Act → World → Prop}
    (hg : o.guard = none) (m x v : Operand) (t : TypeId) (hop : o.op = Op.mapUpdate t m x v) (k e : TypeId) (ht : P.underlying t = some (.map k e)) (hk : P.underlying k = some (.int .i64))
    (b : Nat) (f : Int → Option ByteArray) (n : Int) (s : ByteArray) (hm : a.eval m = .map (some b)) (hx : a.eval x = .int .i64 n) (hv : a.eval v = .string s) (hown : IsLast w b f) (hn : (Lit.int .i64 n).wf = true)
    (hK : ∀ w', IsLast w' b (upd f n s) → w.grownBy w' (some b) → wpList P ops Q rest (a.put o.dst undef) w') :
    wpList P ops Q (o :: rest) a w := by
  refine wpList_plain hg fun K' hK' => ?_
  obtain ⟨w', hrun, r1, r2⟩ := hown.store ht hk n hn s
  unfold Oper.wp
  simp [execOp, hop, hm, hx, hv, hrun, Result.andThen]
  exact hK' _ _ (hK w' r1 r2)
theorem info65 : (Try.prog.info? 65).map (fun i => (i.zero, i.size, i.bytes)) = some (some (.agg #[(.int .i64 0), (.string ⟨#[]⟩)]), 2, 24) := by kernel_rfl
def storeE (S : PS) (n : Int) (b : ByteArray) : Int := if mayE S n = 0 then (if b.size = 128 then (if S.halts = true then (if S.after = 0 then 7 else 0) else 0) else 9) else mayE S n
def storeS (S : PS) (n : Int) (b : ByteArray) : PS := if mayE S n = 0 then (if b.size = 128 then (if S.halts = true ∧ S.after = 0 then { S with halted := true } else { S with after := max (wrap64 (S.after - 1)) 0, afl := S.afl ++ [⟨n, b⟩], last := upd S.last n b }) else S) else S
set_option maxHeartbeats 8000000 in
set_option maxRecDepth 100000 in
theorem store_no {base : Nat} {F : Nat → Prop} {w : World} {g : Nat} {S : PS} (h : IsP base F w g S) (n : Int) (b : ByteArray) (hm : mayE S n = 6 ∨ mayE S n = 7) :
    Calls Try.prog 14 #[.pointer (some ⟨g, 0, none⟩), .int .i64 n, .string b] w fun e w' => e = .returned (.int .i64 (mayE S n)) ∧ Below w.heap.size w w' := by
  have HP := Aside0.mk h
  have HB := Aside0.mk (Below.refl w.heap.size w)
  rcases hm with hm | hm
  all_goals
    rw [hm]
    go_enter Try.func14, Try.ntmps14
    go_wp2_with (first | (go_at_call 32; (with_reducible refine (may_any HP.out n).mono ?_); rintro e w1 ⟨rfl, hb⟩; rw [hm]; have n0_ := Aside0.mk (below_step (by repeat (first | (with_reducible first | exact HB.out | apply below_alloc | apply pw_below_drewN | apply below_drew1) | exact HB.out)) hb); clear HB; have HB := n0_; clear n0_))
    go_ret
    exact ⟨rfl, HB.out⟩
set_option maxHeartbeats 8000000 in
set_option maxRecDepth 100000 in
theorem store_size {base : Nat} {F : Nat → Prop} {w : World} {g : Nat} {S : PS} (h : IsP base F w g S) (n : Int) (b : ByteArray) (hm : mayE S n = 0) (hs : b.size ≠ 128) :
    Calls Try.prog 14 #[.pointer (some ⟨g, 0, none⟩), .int .i64 n, .string b] w fun e w' => e = .returned (.int .i64 9) ∧ Below w.heap.size w w' := by
  have HP := Aside0.mk h
  have HB := Aside0.mk (Below.refl w.heap.size w)
  have hs1 : ((b.size : Int) != 128) = true := by simp; omega
  have hs2 : ((b.size : Int) == 128) = false := by simp; omega
  have hs3 : (b.size == 128) = false := by simp; omega
  go_enter Try.func14, Try.ntmps14
  go_wp2_with (first | (go_at_call 32; (with_reducible refine (may_any HP.out n).mono ?_); rintro e w1 ⟨rfl, hb⟩; rw [hm]; have n0_ := Aside0.mk (below_step (by repeat (first | (with_reducible first | exact HB.out | apply below_alloc | apply pw_below_drewN | apply below_drew1) | exact HB.out)) hb); clear HB; have HB := n0_; clear n0_))
  go_ret
  exact ⟨rfl, HB.out⟩
set_option maxHeartbeats 8000000 in
set_option maxRecDepth 100000 in
theorem store_halt {base : Nat} {F : Nat → Prop} {w : World} {g : Nat} {S : PS} (h : IsP base F w g S) (n : Int) (b : ByteArray) (hm : mayE S n = 0) (hs : b.size = 128) (hh : S.halts = true) (ha : S.after = 0) :
    Calls Try.prog 14 #[.pointer (some ⟨g, 0, none⟩), .int .i64 n, .string b] w fun e w' => e = .returned (.int .i64 7) ∧ IsP base F w' g { S with halted := true } ∧ Kept w w' F ∧ (base ≤ w.heap.size → Below base w w') := by
  have HP := Aside0.mk h
  have HB := Aside0.mk (Below.refl w.heap.size w)
  have hs1 : ((b.size : Int) != 128) = false := by simp; omega
  have hs2 : ((b.size : Int) == 128) = true := by simp; omega
  go_enter Try.func14, Try.ntmps14
  go_wp2_with (first | (go_at_call 32; (with_reducible refine (may_any HP.out n).mono ?_); rintro e w1 ⟨rfl, hb⟩; rw [hm]; obtain ⟨A, c, m, B, d, h1, _⟩ := (HP.out.below hb).cells; have hf5 := blk_frozen h1 5; obtain ⟨c0, c1, c2, c3, c4, c5⟩ := cell62 h1; rw [hh] at c3; rw [ha] at c4; have n0_ := Aside0.mk (below_step (by repeat (first | (with_reducible first | exact HB.out | apply below_alloc | apply pw_below_drewN | apply below_drew1) | exact HB.out)) hb); clear HB; have HB := n0_; clear n0_))
  go_ret
  exact ⟨rfl, (HP.out.below HB.out).set5 true, (Kept.of_below HB.out _).setCell (.inl HP.out.inF) _, fun hle => below_setG (HB.out.mono hle) HP.out.ge _ _⟩
end Go.Proofs.Ytcmldpacgbhfmaa.V
