/- The walk of real.Bytes. -/
import Derived.Test.YtopkfjnhaikpaaaC
import Derived.Deep.Draws
import Derived.Deep.AppendLies
import Derived.Maps.AppendAt
import Derived.OwnWalk
import Derived.Laws.BytesArg
import Derived.Laws.MakeOwn
import Derived.Laws.OwnMore
import Derived.Deep.OwnRows
import Derived.Lib.ConvBytes
import Derived.RowKit3
import Derived.Deep.LoopGhost
import Derived.Laws.BitsLemmas
import Derived.Outline
import Derived.Test.YtopkfjnhaikpaaaWWords
import Derived.Test.YtopkfjnhaikpaaaWLast
import Derived.Test.YtopkfjnhaikpaaaWMore
namespace Go.Proofs.Ytopkfjnhaikpaaa
open Go.Fl
open Go.RowKit Go.Proofs.YtopkfjnhaikpaaaW.PrintWords Go.Proofs.YtopkfjnhaikpaaaW.PrintLast Go.Proofs.YtopkfjnhaikpaaaW.PrintMore
set_option linter.unusedSimpArgs false
set_option linter.unusedVariables false

theorem info5 : (Try.prog.info? 5).map (fun i => (i.zero, i.size, i.bytes)) = some (some (.int .u8 0), 1, 1) := by kernel_rfl

/-- the byte at a place -/
def byI (x : Nat) (s : Nat) : Int := ((x : Int) / 2 ^ s) % 256
def byL (x : Nat) (j : Nat) : List Int := (List.range j).map fun i => byI x (56 - 8 * i)
theorem byL_length (x j : Nat) : (byL x j).length = j := by unfold byL; simp
theorem byL_snoc (x j : Nat) (h : j < 8) : byL x (j + 1) = byL x j ++ [byI x (56 - 8 * j)] := by
  unfold byL; rw [List.range_succ, List.map_append]; rfl
def BR (x : Nat) (w w' : World) (v4 v5 : Value) (j : Nat) : Prop := v5 = .int .i64 (7 - (j : Int)) ∧ Kd.R (Kd.int .u8) 5 w' w.heap.size (fun _ => True) v4 (byL x j)

theorem bytes_any (x : Nat) (w : World) :
    Calls Try.prog 26 #[.float .f64 x] w fun e w' => e = .returned (.string (strOfNums (byL x 8))) ∧ Below w.heap.size w w' := by
  go_enter Try.func26, Try.ntmps26
  go_wp2
  go_loopw [4, 5] (fun v4 v5 w' => ∃ j : Nat, j ≤ 8 ∧ v5 = .int .i64 (7 - (j : Int)) ∧ Aside0 (Kd.R (Kd.int .u8) 5 w' w.heap.size (fun _ => True) v4 (byL x j)) ∧ Aside0 (Below w.heap.size w w')) (fun _ v5 _ => (intOf v5 + 1).toNat)
  case atStart => exact ⟨0, by decide, rfl, ⟨Kd.R_nil _ _ _ _ _⟩, ⟨Below.refl _ _⟩⟩
  case round =>
    obtain ⟨j, hj, rfl, HO, HB⟩ := hrel
    by_cases h8 : j = 8
    · subst h8
      have hcv9 := own_string (P := Try.prog) Try.underlying51 Try.underlying5 Try.underlying9 (Kd.own_of_R HO.out)
      go_wp2
      go_ret
      exact ⟨rfl, HB.out⟩
    · have hlen : (byL x j).length < 140737488355328 := by rw [byL_length]; omega
      have hsnoc := byL_snoc x j (by omega)
      obtain ⟨y, hy⟩ : ∃ y, y = byL x (j + 1) := ⟨_, rfl⟩
      rw [← hy] at hsnoc
      have HY := Aside0.mk hy
      clear hy
      obtain ⟨i, hi⟩ : ∃ i : Int, i = 7 - (j : Int) := ⟨_, rfl⟩
      have he : byI x (56 - 8 * j) = (x : Int) / 2 ^ (8 * i).toNat % 256 := by
        unfold byI; rw [show (8 * i).toNat = 56 - 8 * j by omega]
      rw [he] at hsnoc
      have HS := Aside0.mk hsnoc
      have LM := Aside0.mk hlen
      clear hsnoc he hlen
      rw [← hi]
      have i0 : 0 ≤ i := by omega
      have i7 : i ≤ 7 := by omega
      have HI := Aside0.mk hi
      clear hi h8
      go_wp2_with (first | ((with_reducible refine gate_builtin (b := .append) (xs := #[.tmp 12, .tmp 18]) rfl ?_); at_builtin; refine Kd.R_append (Kd.int .u8) (w0 := w) w.heap.size rfl (.tmp 12) (.tmp 18) 51 5 (.int .u8 0) 1 rfl Try.underlying51 info5 rfl (by decide) (by omega) u4 (byL x j) ((x : Int) / 2 ^ (8 * i).toNat % 256) [.int .u8 ((x : Int) / 2 ^ (8 * i).toNat % 256)] (fun _ => True) (fun _ => False) rfl rfl ?aP (fun _ hk => hk.elim) ?aF ?aO ?aB ?aS ?aL ?_; (case aP => exact rfl); (case aB => exact (by repeat (first | (with_reducible first | exact HB.out | apply below_alloc | apply pw_below_drewN | apply below_drew1) | exact HB.out))); (case aF => exact (fun _ _ => trivial)); (case aO => exact (by (with_reducible repeat (first | apply Kd.R_alloc | apply Kd.R_drewN | apply Kd.R_drew)); exact HO.out)); (case aS => exact (below_size (by repeat (first | (with_reducible first | exact HB.out | apply below_alloc | apply pw_below_drewN | apply below_drew1) | exact HB.out)))); (case aL => have := LM.out; omega); intro v102 w8 ho hb hg hat; rw [← HS.out] at ho; have n0_ := Aside0.mk (hb); have n1_ := Aside0.mk (ho); clear HB; clear HO; have HB := n0_; have HO := n1_; clear n0_ n1_; clear ho hb hg hat))
      go_roundw
      case rel => exact ⟨j + 1, by have := HI.out; omega, by have := HI.out; rw [Value.int.injEq]; exact ⟨rfl, by omega⟩, ⟨by rw [← HY.out]; (with_reducible repeat (first | apply Kd.R_alloc | apply Kd.R_drewN | apply Kd.R_drew)); exact HO.out⟩, ⟨by repeat (first | (with_reducible first | exact HB.out | apply below_alloc | apply pw_below_drewN | apply below_drew1) | exact HB.out)⟩⟩
      case measure => simp [intOf]; omega
end Go.Proofs.Ytopkfjnhaikpaaa
