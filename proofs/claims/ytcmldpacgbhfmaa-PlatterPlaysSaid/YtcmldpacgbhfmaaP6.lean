/- A platter: New. -/
import Derived.Test.YtcmldpacgbhfmaaR
namespace Go.Proofs.Ytcmldpacgbhfmaa.V
open Go.RowKit Go.Proofs.YtcmldpacgbhfmaaW.PrintWords Go.Proofs.YtcmldpacgbhfmaaW.PrintLast Go.Proofs.YtcmldpacgbhfmaaW.PrintMore
set_option linter.unusedVariables false
set_option linter.unusedSimpArgs false

/-- zeros -/
def zer (n : Nat) : ByteArray := ⟨(List.replicate n (0 : UInt8)).toArray⟩
theorem zer_size (n : Nat) : (zer n).size = n := by
  show (List.replicate n (0 : UInt8)).toArray.size = n
  simp
theorem repeat_zer (n : Nat) : (⟨(Lib.repeatL (⟨#[0]⟩ : ByteArray).data.toList n).toArray⟩ : ByteArray) = zer n := by
  unfold zer
  congr 2
  induction n with
  | zero => rfl
  | succ n ih => rw [List.replicate_succ, ← ih]; rfl
/-- a new platter -/
def newS (n : Nat) : PS := { safe := List.replicate n (zer 128), last := fun _ => none, afl := [], halts := false, after := 0, halted := false }
theorem row_R {w : World} {q n base : Nat} {F : Nat → Prop} {s : ByteArray} (h : w.heap[q]? = some (.cells (Array.replicate n (.string s)) 9 (0, 0))) (hb : base ≤ q) (hF : F q) (hn : n ≤ 1000) : Kd.R Kd.string 9 w base F (.slice (some ⟨q, 0, none⟩) n n) (List.replicate n s) := by
  have hl : (List.replicate n s).length = n := List.length_replicate
  refine Kd.R_of_own (enc := Value.string) ?_ (fun k hk => by simp [Value.ownBlock] at hk; subst hk; exact hF)
  rw [hl]
  have e : encs Value.string (List.replicate n s) = List.replicate n (Value.string s) := by simp [encs]
  rw [e]
  refine ⟨by simp, .inr ⟨q, n, _, rfl, hb, h, Nat.le_refl _, by unfold maxLen; omega, by simp, by simp⟩⟩
set_option maxHeartbeats 8000000 in
set_option maxRecDepth 100000 in
theorem new_any (w : World) (n : Nat) (h0 : 1 ≤ n) (h1 : n ≤ 200) :
    Calls Try.prog 12 #[.int .i64 n] w fun e w' => ∃ g, e = .returned (.pointer (some ⟨g, 0, none⟩)) ∧ IsP w.heap.size (fun k => w.heap.size ≤ k) w' g (newS n) ∧ Below w.heap.size w w' := by
  have HB := Aside0.mk (Below.refl w.heap.size w)
  have H0 := Aside0.mk h0
  have H1 := Aside0.mk h1
  have d1 : decide ((n : Int) < 1) = false := decide_eq_false (by omega)
  have d2 : decide ((200 : Int) < (n : Int)) = false := decide_eq_false (by omega)
  have d3 : decide (n < 1) = false := decide_eq_false (by omega)
  have d4 : decide (200 < n) = false := decide_eq_false (by omega)
  have d5 : (n = 0) = False := eq_false (by omega)
  have d6 : decide (n = 0) = false := decide_eq_false (by omega)
  clear h0 h1
  have hmm := @run_makeMap Try.prog
  have hrep : ∀ w, Calls Try.prog 31 #[.string ⟨#[0]⟩, .int .i64 128] w fun e w' => e = .returned (.string (zer 128)) ∧ Below w.heap.size w w' := by
    intro w
    have := Try.strings_Repeat ⟨#[0]⟩ 128 w (by decide) (by decide)
    rw [repeat_zer] at this
    exact this
  have HR := Aside0.mk hrep
  clear hrep
  go_enter Try.func12, Try.ntmps12
  go_wp2_with (first
    | (go_at_call 31; (with_reducible refine (HR.out _).mono ?_); rintro e w1 ⟨rfl, hb⟩; have Z1 := Aside0.mk hb; clear hb)
    | (go_at_call 30; go_must (refine (repeat_any _ _ (zer 128) n H0.out (Nat.le_trans H1.out (by decide)) (blk_cell (MapKept.heap_alloc _ _).1 0)).mono ?_); rintro e w2 ⟨rfl, hq, hb⟩; have Z2 := Aside0.mk hq; have Z3 := Aside0.mk hb; clear hq hb))
  go_ret
  have hs1 := Z1.out.size
  have hs2 : (w1.alloc (Obj.cells #[Value.string (zer 128)] 9)).heap.size = w1.heap.size + 1 := by simp
  have q2 := Z2.out
  have hs3 := Z3.out.size
  rw [hs2] at q2 hs3
  have hq : w1.heap.size + 1 < w2.heap.size := blk_lt q2
  have m1 := MapKept.heap_alloc w2 (Obj.map #[] 0)
  have hs4 : (w2.alloc (Obj.map #[] 0)).heap.size = w2.heap.size + 1 := by simp
  have m2 := MapKept.heap_alloc (w2.alloc (Obj.map #[] 0)) (Obj.cells #[Value.slice (some { block := w1.heap.size + 1, off := 0 }) n n, Value.map (some w2.heap.size), Value.slice none 0 0, Value.bool false, Value.int IntKind.i64 0, Value.bool false] 62)
  rw [hs4] at m2
  have q4 := (m2.2 (w1.heap.size + 1) (by omega)).trans ((m1.2 _ hq).trans q2)
  have l4 := (IsLast.made w2).at (m2.2 w2.heap.size (by omega))
  have b1 : Below w.heap.size w (w1.alloc (Obj.cells #[Value.string (zer 128)] 9)) := below_alloc Z1.out _
  have b2 : Below w.heap.size w w2 := b1.trans (Z3.out.mono (by omega))
  refine ⟨_, rfl, ⟨_, w2.heap.size, _, m2.1, by omega, (show w.heap.size ≤ _ by omega), by omega, (show w.heap.size ≤ _ by omega), row_R q4 (by omega) (show w.heap.size ≤ _ by omega) (by have := H1.out; omega), Kd.R_nil _ _ _ _ _, l4⟩, below_alloc (below_alloc b2 _) _⟩
end Go.Proofs.Ytcmldpacgbhfmaa.V
