/- maquettebook: kinds of which nothing is kept. -/
import Derived.Test.YtfblelkegebdiaaBK0
namespace Go.Proofs.Ytfblelkegebdiaa.V
open Go.Proofs Go.RowKit Go.Lib Go.Proofs.YtfblelkegebdiaaW.PrintWords Go.Proofs.YtfblelkegebdiaaW.PrintLast Go.Proofs.YtfblelkegebdiaaW.PrintMore
set_option linter.unusedVariables false
set_option linter.unusedSimpArgs false
namespace BE


set_option maxHeartbeats 1000000 in
theorem stillBodies (w : World) (g : Nat) (vs : Array Value) (hg : w.heap[g]? = some (.cells vs 42 (0, 0))) (hv : vs[4]? = some (.slice none 0 0)) :
    Calls Try.prog 31 #[.pointer (some ⟨g, 0, none⟩)] w fun e w' => e = .returned (.bool true) ∧ w' = w := by
  have x0 : w.cell? ⟨g, 4, none⟩ = some (.slice none 0 0) := (blk_cell hg 4).trans hv
  clear hg hv
  go_enter Try.func31, Try.ntmps31
  go_wp2
  go_loopg [3] 0 (fun kx s3 wr => wr = w ∧ s3 = .int .i64 0)
  case atStart => exact ⟨rfl, rfl⟩
  case round =>
    obtain ⟨rfl, rfl⟩ := hrel
    go_wp2
    go_ret
    exact ⟨by first | rfl | simp, rfl⟩
set_option maxHeartbeats 1000000 in
theorem putBodies (w : World) (g : Nat) (vs : Array Value) (hg : w.heap[g]? = some (.cells vs 42 (0, 0))) (hv : vs[4]? = some (.slice none 0 0)) :
    Calls Try.prog 40 #[.pointer (some ⟨g, 0, none⟩)] w fun e w' => e = .returned (.tuple #[]) ∧ w' = w := by
  have x0 : w.cell? ⟨g, 4, none⟩ = some (.slice none 0 0) := (blk_cell hg 4).trans hv
  clear hg hv
  go_enter Try.func40, Try.ntmps40
  go_wp2
  go_loopg [2] 0 (fun kx s2 wr => wr = w ∧ s2 = .int .i64 0)
  case atStart => exact ⟨rfl, rfl⟩
  case round =>
    obtain ⟨rfl, rfl⟩ := hrel
    go_wp2
    go_end0
    exact ⟨rfl, rfl⟩
set_option maxHeartbeats 1000000 in
theorem growBodies (w : World) (g : Nat) (vs : Array Value) (hg : w.heap[g]? = some (.cells vs 42 (0, 0))) (hv : vs[4]? = some (.slice none 0 0)) :
    Calls Try.prog 45 #[.pointer (some ⟨g, 0, none⟩)] w fun e w' => e = .returned (.slice none 0 0) ∧ w' = w := by
  have x0 : w.cell? ⟨g, 4, none⟩ = some (.slice none 0 0) := (blk_cell hg 4).trans hv
  clear hg hv
  go_enter Try.func45, Try.ntmps45
  go_wp2
  go_loopg [3, 4] 0 (fun kx s3 s4 wr => wr = w ∧ s3 = .slice none 0 0 ∧ s4 = .int .i64 0)
  case atStart => exact ⟨rfl, rfl, rfl⟩
  case round =>
    obtain ⟨rfl, rfl, rfl⟩ := hrel
    go_wp2
    go_ret
    exact ⟨rfl, rfl⟩
set_option maxHeartbeats 1000000 in
theorem markedBodies (w : World) : Calls Try.prog 52 #[.slice none 0 0] w fun e w' => e = .returned (.bool true) ∧ w' = w := by
  go_enter Try.func52, Try.ntmps52
  go_wp2
  go_loopg [3] 0 (fun kx s3 wr => wr = w ∧ s3 = .int .i64 0)
  case atStart => exact ⟨rfl, rfl⟩
  case round =>
    obtain ⟨rfl, rfl⟩ := hrel
    go_wp2
    go_ret
    exact ⟨by first | rfl | simp, rfl⟩


set_option maxHeartbeats 1000000 in
theorem stillTexts (w : World) (g : Nat) (vs : Array Value) (hg : w.heap[g]? = some (.cells vs 42 (0, 0))) (hv : vs[6]? = some (.slice none 0 0)) :
    Calls Try.prog 32 #[.pointer (some ⟨g, 0, none⟩)] w fun e w' => e = .returned (.bool true) ∧ w' = w := by
  have x0 : w.cell? ⟨g, 6, none⟩ = some (.slice none 0 0) := (blk_cell hg 6).trans hv
  clear hg hv
  go_enter Try.func32, Try.ntmps32
  go_wp2
  go_loopg [3] 0 (fun kx s3 wr => wr = w ∧ s3 = .int .i64 0)
  case atStart => exact ⟨rfl, rfl⟩
  case round =>
    obtain ⟨rfl, rfl⟩ := hrel
    go_wp2
    go_ret
    exact ⟨by first | rfl | simp, rfl⟩
set_option maxHeartbeats 1000000 in
theorem putTexts (w : World) (g : Nat) (vs : Array Value) (hg : w.heap[g]? = some (.cells vs 42 (0, 0))) (hv : vs[6]? = some (.slice none 0 0)) :
    Calls Try.prog 41 #[.pointer (some ⟨g, 0, none⟩)] w fun e w' => e = .returned (.tuple #[]) ∧ w' = w := by
  have x0 : w.cell? ⟨g, 6, none⟩ = some (.slice none 0 0) := (blk_cell hg 6).trans hv
  clear hg hv
  go_enter Try.func41, Try.ntmps41
  go_wp2
  go_loopg [2] 0 (fun kx s2 wr => wr = w ∧ s2 = .int .i64 0)
  case atStart => exact ⟨rfl, rfl⟩
  case round =>
    obtain ⟨rfl, rfl⟩ := hrel
    go_wp2
    go_end0
    exact ⟨rfl, rfl⟩
set_option maxHeartbeats 1000000 in
theorem growTexts (w : World) (g : Nat) (vs : Array Value) (hg : w.heap[g]? = some (.cells vs 42 (0, 0))) (hv : vs[6]? = some (.slice none 0 0)) :
    Calls Try.prog 46 #[.pointer (some ⟨g, 0, none⟩)] w fun e w' => e = .returned (.slice none 0 0) ∧ w' = w := by
  have x0 : w.cell? ⟨g, 6, none⟩ = some (.slice none 0 0) := (blk_cell hg 6).trans hv
  clear hg hv
  go_enter Try.func46, Try.ntmps46
  go_wp2
  go_loopg [3, 4] 0 (fun kx s3 s4 wr => wr = w ∧ s3 = .slice none 0 0 ∧ s4 = .int .i64 0)
  case atStart => exact ⟨rfl, rfl, rfl⟩
  case round =>
    obtain ⟨rfl, rfl, rfl⟩ := hrel
    go_wp2
    go_ret
    exact ⟨rfl, rfl⟩
set_option maxHeartbeats 1000000 in
theorem markedTexts (w : World) : Calls Try.prog 53 #[.slice none 0 0] w fun e w' => e = .returned (.bool true) ∧ w' = w := by
  go_enter Try.func53, Try.ntmps53
  go_wp2
  go_loopg [3] 0 (fun kx s3 wr => wr = w ∧ s3 = .int .i64 0)
  case atStart => exact ⟨rfl, rfl⟩
  case round =>
    obtain ⟨rfl, rfl⟩ := hrel
    go_wp2
    go_ret
    exact ⟨by first | rfl | simp, rfl⟩


set_option maxHeartbeats 1000000 in
theorem stillThings (w : World) (g : Nat) (vs : Array Value) (hg : w.heap[g]? = some (.cells vs 42 (0, 0))) (hv : vs[8]? = some (.slice none 0 0)) :
    Calls Try.prog 33 #[.pointer (some ⟨g, 0, none⟩)] w fun e w' => e = .returned (.bool true) ∧ w' = w := by
  have x0 : w.cell? ⟨g, 8, none⟩ = some (.slice none 0 0) := (blk_cell hg 8).trans hv
  clear hg hv
  go_enter Try.func33, Try.ntmps33
  go_wp2
  go_loopg [3] 0 (fun kx s3 wr => wr = w ∧ s3 = .int .i64 0)
  case atStart => exact ⟨rfl, rfl⟩
  case round =>
    obtain ⟨rfl, rfl⟩ := hrel
    go_wp2
    go_ret
    exact ⟨by first | rfl | simp, rfl⟩
set_option maxHeartbeats 1000000 in
theorem putThings (w : World) (g : Nat) (vs : Array Value) (hg : w.heap[g]? = some (.cells vs 42 (0, 0))) (hv : vs[8]? = some (.slice none 0 0)) :
    Calls Try.prog 36 #[.pointer (some ⟨g, 0, none⟩)] w fun e w' => e = .returned (.tuple #[]) ∧ w' = w := by
  have x0 : w.cell? ⟨g, 8, none⟩ = some (.slice none 0 0) := (blk_cell hg 8).trans hv
  clear hg hv
  go_enter Try.func36, Try.ntmps36
  go_wp2
  go_loopg [2] 0 (fun kx s2 wr => wr = w ∧ s2 = .int .i64 0)
  case atStart => exact ⟨rfl, rfl⟩
  case round =>
    obtain ⟨rfl, rfl⟩ := hrel
    go_wp2
    go_end0
    exact ⟨rfl, rfl⟩
set_option maxHeartbeats 1000000 in
theorem growThings (w : World) (g : Nat) (vs : Array Value) (hg : w.heap[g]? = some (.cells vs 42 (0, 0))) (hv : vs[8]? = some (.slice none 0 0)) :
    Calls Try.prog 47 #[.pointer (some ⟨g, 0, none⟩)] w fun e w' => e = .returned (.slice none 0 0) ∧ w' = w := by
  have x0 : w.cell? ⟨g, 8, none⟩ = some (.slice none 0 0) := (blk_cell hg 8).trans hv
  clear hg hv
  go_enter Try.func47, Try.ntmps47
  go_wp2
  go_loopg [3, 4] 0 (fun kx s3 s4 wr => wr = w ∧ s3 = .slice none 0 0 ∧ s4 = .int .i64 0)
  case atStart => exact ⟨rfl, rfl, rfl⟩
  case round =>
    obtain ⟨rfl, rfl, rfl⟩ := hrel
    go_wp2
    go_ret
    exact ⟨rfl, rfl⟩
set_option maxHeartbeats 1000000 in
theorem markedThings (w : World) : Calls Try.prog 54 #[.slice none 0 0] w fun e w' => e = .returned (.bool true) ∧ w' = w := by
  go_enter Try.func54, Try.ntmps54
  go_wp2
  go_loopg [3] 0 (fun kx s3 wr => wr = w ∧ s3 = .int .i64 0)
  case atStart => exact ⟨rfl, rfl⟩
  case round =>
    obtain ⟨rfl, rfl⟩ := hrel
    go_wp2
    go_ret
    exact ⟨by first | rfl | simp, rfl⟩


set_option maxHeartbeats 1000000 in
theorem stillDeltas (w : World) (g : Nat) (vs : Array Value) (hg : w.heap[g]? = some (.cells vs 42 (0, 0))) (hv : vs[10]? = some (.slice none 0 0)) :
    Calls Try.prog 34 #[.pointer (some ⟨g, 0, none⟩)] w fun e w' => e = .returned (.bool true) ∧ w' = w := by
  have x0 : w.cell? ⟨g, 10, none⟩ = some (.slice none 0 0) := (blk_cell hg 10).trans hv
  clear hg hv
  go_enter Try.func34, Try.ntmps34
  go_wp2
  go_loopg [3] 0 (fun kx s3 wr => wr = w ∧ s3 = .int .i64 0)
  case atStart => exact ⟨rfl, rfl⟩
  case round =>
    obtain ⟨rfl, rfl⟩ := hrel
    go_wp2
    go_ret
    exact ⟨by first | rfl | simp, rfl⟩
set_option maxHeartbeats 1000000 in
theorem putDeltas (w : World) (g : Nat) (vs : Array Value) (hg : w.heap[g]? = some (.cells vs 42 (0, 0))) (hv : vs[10]? = some (.slice none 0 0)) :
    Calls Try.prog 42 #[.pointer (some ⟨g, 0, none⟩)] w fun e w' => e = .returned (.tuple #[]) ∧ w' = w := by
  have x0 : w.cell? ⟨g, 10, none⟩ = some (.slice none 0 0) := (blk_cell hg 10).trans hv
  clear hg hv
  go_enter Try.func42, Try.ntmps42
  go_wp2
  go_loopg [2] 0 (fun kx s2 wr => wr = w ∧ s2 = .int .i64 0)
  case atStart => exact ⟨rfl, rfl⟩
  case round =>
    obtain ⟨rfl, rfl⟩ := hrel
    go_wp2
    go_end0
    exact ⟨rfl, rfl⟩
set_option maxHeartbeats 1000000 in
theorem growDeltas (w : World) (g : Nat) (vs : Array Value) (hg : w.heap[g]? = some (.cells vs 42 (0, 0))) (hv : vs[10]? = some (.slice none 0 0)) :
    Calls Try.prog 48 #[.pointer (some ⟨g, 0, none⟩)] w fun e w' => e = .returned (.slice none 0 0) ∧ w' = w := by
  have x0 : w.cell? ⟨g, 10, none⟩ = some (.slice none 0 0) := (blk_cell hg 10).trans hv
  clear hg hv
  go_enter Try.func48, Try.ntmps48
  go_wp2
  go_loopg [3, 4] 0 (fun kx s3 s4 wr => wr = w ∧ s3 = .slice none 0 0 ∧ s4 = .int .i64 0)
  case atStart => exact ⟨rfl, rfl, rfl⟩
  case round =>
    obtain ⟨rfl, rfl, rfl⟩ := hrel
    go_wp2
    go_ret
    exact ⟨rfl, rfl⟩
set_option maxHeartbeats 1000000 in
theorem markedDeltas (w : World) : Calls Try.prog 55 #[.slice none 0 0] w fun e w' => e = .returned (.bool true) ∧ w' = w := by
  go_enter Try.func55, Try.ntmps55
  go_wp2
  go_loopg [3] 0 (fun kx s3 wr => wr = w ∧ s3 = .int .i64 0)
  case atStart => exact ⟨rfl, rfl⟩
  case round =>
    obtain ⟨rfl, rfl⟩ := hrel
    go_wp2
    go_ret
    exact ⟨by first | rfl | simp, rfl⟩


set_option maxHeartbeats 1000000 in
theorem stillEntries (w : World) (g : Nat) (vs : Array Value) (hg : w.heap[g]? = some (.cells vs 42 (0, 0))) (hv : vs[12]? = some (.slice none 0 0)) :
    Calls Try.prog 35 #[.pointer (some ⟨g, 0, none⟩)] w fun e w' => e = .returned (.bool true) ∧ w' = w := by
  have x0 : w.cell? ⟨g, 12, none⟩ = some (.slice none 0 0) := (blk_cell hg 12).trans hv
  clear hg hv
  go_enter Try.func35, Try.ntmps35
  go_wp2
  go_loopg [3] 0 (fun kx s3 wr => wr = w ∧ s3 = .int .i64 0)
  case atStart => exact ⟨rfl, rfl⟩
  case round =>
    obtain ⟨rfl, rfl⟩ := hrel
    go_wp2
    go_ret
    exact ⟨by first | rfl | simp, rfl⟩
set_option maxHeartbeats 1000000 in
theorem putEntries (w : World) (g : Nat) (vs : Array Value) (hg : w.heap[g]? = some (.cells vs 42 (0, 0))) (hv : vs[12]? = some (.slice none 0 0)) :
    Calls Try.prog 37 #[.pointer (some ⟨g, 0, none⟩)] w fun e w' => e = .returned (.tuple #[]) ∧ w' = w := by
  have x0 : w.cell? ⟨g, 12, none⟩ = some (.slice none 0 0) := (blk_cell hg 12).trans hv
  clear hg hv
  go_enter Try.func37, Try.ntmps37
  go_wp2
  go_loopg [2] 0 (fun kx s2 wr => wr = w ∧ s2 = .int .i64 0)
  case atStart => exact ⟨rfl, rfl⟩
  case round =>
    obtain ⟨rfl, rfl⟩ := hrel
    go_wp2
    go_end0
    exact ⟨rfl, rfl⟩
set_option maxHeartbeats 1000000 in
theorem growEntries (w : World) (g : Nat) (vs : Array Value) (hg : w.heap[g]? = some (.cells vs 42 (0, 0))) (hv : vs[12]? = some (.slice none 0 0)) :
    Calls Try.prog 49 #[.pointer (some ⟨g, 0, none⟩)] w fun e w' => e = .returned (.slice none 0 0) ∧ w' = w := by
  have x0 : w.cell? ⟨g, 12, none⟩ = some (.slice none 0 0) := (blk_cell hg 12).trans hv
  clear hg hv
  go_enter Try.func49, Try.ntmps49
  go_wp2
  go_loopg [3, 4] 0 (fun kx s3 s4 wr => wr = w ∧ s3 = .slice none 0 0 ∧ s4 = .int .i64 0)
  case atStart => exact ⟨rfl, rfl, rfl⟩
  case round =>
    obtain ⟨rfl, rfl, rfl⟩ := hrel
    go_wp2
    go_ret
    exact ⟨rfl, rfl⟩
set_option maxHeartbeats 1000000 in
theorem markedEntries (w : World) : Calls Try.prog 56 #[.slice none 0 0] w fun e w' => e = .returned (.bool true) ∧ w' = w := by
  go_enter Try.func56, Try.ntmps56
  go_wp2
  go_loopg [3] 0 (fun kx s3 wr => wr = w ∧ s3 = .int .i64 0)
  case atStart => exact ⟨rfl, rfl⟩
  case round =>
    obtain ⟨rfl, rfl⟩ := hrel
    go_wp2
    go_ret
    exact ⟨by first | rfl | simp, rfl⟩

end BE
end Go.Proofs.Ytfblelkegebdiaa.V
