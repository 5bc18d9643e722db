/- The writer's methods. -/
import Derived.Test.YtbjknbfagadhfaaQW
import Derived.Test.YtbjknbfagadhfaaProg
import Derived.Deep.Draws
import Derived.Deep.AppendLies
import Derived.Maps.AppendAt
import Derived.OwnWalk
import Derived.Laws.BytesArg
import Derived.Laws.MakeOwn
import Derived.Laws.OwnMore
import Derived.Deep.OwnRows
import Derived.Lib.ConvBytes
import Derived.RowKit3
import Derived.Deep.LoopGhost
import Derived.Laws.BitsLemmas
import Derived.Outline
import Derived.Lib.Hide
namespace Go.Proofs.Ytbjknbfagadhfaa.V
open Go.RowKit Go.Proofs.YtbjknbfagadhfaaW.PrintWords Go.Proofs.YtbjknbfagadhfaaW.PrintLast Go.Proofs.YtbjknbfagadhfaaW.PrintMore
set_option linter.unusedSimpArgs false
set_option linter.unusedVariables false

theorem info5 : (Try.prog.info? 5).map (fun i => (i.zero, i.size, i.bytes)) = some (some (.int .u8 0), 1, 1) := by kernel_rfl

/-- a writer that has written l, its struct and its row of the call's own -/
def IsW (w0 w : World) (g : Nat) (l : List Int) : Prop := ∃ v, w.heap[g]? = some (.cells #[v] 76 (0, 0)) ∧ w0.heap.size ≤ g ∧ Kd.R (Kd.int .u8) 5 w w0.heap.size (fun k => k ≠ g) v l

/-- the byte of a number that is written at the place i from the right -/
def byI (x : Int) (i : Int) : Int := (shr .i64 x (wrap64 (8 * i))) % 256
/-- the j first bytes of n -/
def byL (x n : Int) (j : Nat) : List Int := (List.range j).map fun (i : Nat) => byI x (n - 1 - i)

/-- all other blocks are as they were, but rows of bytes -/
def Kp (w w1 : World) (g : Nat) : Prop := ∀ k c t, 5 ≠ t → k ≠ g → w.heap[k]? = some (.cells c t (0, 0)) → w1.heap[k]? = some (.cells c t (0, 0))
theorem Kp.refl (w : World) (g : Nat) : Kp w w g := fun _ _ _ _ _ h => h
theorem Kp.trans {a b c : World} {g : Nat} (h : Kp a b g) (h2 : Kp b c g) : Kp a c g := fun k x t ht hk hb => h2 k x t ht hk (h k x t ht hk hb)

theorem byL_length (x n : Int) (j : Nat) : (byL x n j).length = j := by unfold byL; simp
theorem byL_snoc (x n : Int) (j : Nat) : byL x n (j + 1) = byL x n j ++ [byI x (n - 1 - j)] := by
  unfold byL; rw [List.range_succ, List.map_append]; rfl

set_option maxRecDepth 100000 in
theorem num_any (w0 w : World) (g : Nat) (l : List Int) (x n : Int) (hn : 0 ≤ n) (hn8 : n ≤ 8) (hl : l.length ≤ 1000000) (HI : IsW w0 w g l) (HB : Below w0.heap.size w0 w) :
    Calls Try.prog 34 #[.pointer (some ⟨g, 0, none⟩), .int .i64 x, .int .i64 n] w fun e w' => e = .returned (.tuple #[]) ∧ IsW w0 w' g (l ++ byL x n n.toNat) ∧ Below w0.heap.size w0 w' ∧ Kp w w' g := by
  have HI := Aside0.mk HI
  have HB := Aside0.mk HB
  go_enter Try.func34, Try.ntmps34
  go_wp2
  go_loopw [2] (fun v2 w' => ∃ j : Nat, j ≤ n.toNat ∧ v2 = .int .i64 (n - 1 - (j : Int)) ∧ Aside0 (IsW w0 w' g (l ++ byL x n j)) ∧ Aside0 (Below w0.heap.size w0 w') ∧ Aside0 (Kp w w' g)) (fun v2 _ => (intOf v2 + 1).toNat)
  case atStart => exact ⟨0, Nat.zero_le _, by simp, ⟨by have e : byL x n 0 = [] := rfl; rw [e, List.append_nil]; exact HI.out⟩, HB, ⟨Kp.refl _ _⟩⟩
  case round =>
    obtain ⟨j, hj, rfl, HI, HB_, HKP⟩ := hrel
    have HB := HB_
    by_cases h8 : j = n.toNat
    · have h0 : ¬ (0 ≤ n - 1 - (j : Int)) := by omega
      go_wp2
      go_end0
      subst h8
      exact ⟨rfl, HI.out, HB.out, HKP.out⟩
    · obtain ⟨u, hHG, hge, hR⟩ := HI.out
      have HG := Aside0.mk (show wr.drew.heap[g]? = some (.cells #[u] 76 (0, 0)) from hHG)
      have HGE := Aside0.mk hge
      have HR := Aside0.mk (Kd.R_drew hR)
      have HB := Aside0.mk (below_drew1 HB.out)
      have HKP := Aside0.mk (show Kp w wr.drew g from HKP.out)
      have LM := Aside0.mk (show (l ++ byL x n j).length ≤ 1000008 by rw [List.length_append, byL_length]; omega)
      have HS := Aside0.mk (byL_snoc x n j)
      have HJ := Aside0.mk hj
      have HN := Aside0.mk h8
      clear hHG hge hR HI h8 hj HB_
      obtain ⟨i, hi⟩ : ∃ i : Int, i = n - 1 - (j : Int) := ⟨_, rfl⟩
      have i0 : 0 ≤ i := by have := HJ.out; have := HN.out; omega
      have i8 : i ≤ 7 := by omega
      have HX := Aside0.mk hi
      rw [← hi]
      clear hi
      have hbi : byI x i = (shr .i64 x (wrap64 (8 * i))) % 256 := rfl
      have h0i : 0 ≤ wrap64 (8 * i) := by unfold wrap64; omega
      obtain ⟨sh, hsh⟩ : ∃ j_ : Int, wrap64 (8 * i) = j_ := ⟨_, rfl⟩
      rw [hsh] at hbi h0i
      have hshw : (IntKind.i64.wrap (8 * i)) = sh := (i64_w _).trans hsh
      have c5b0 := eq_true h0i
      have c5b1 : decide (0 ≤ sh) = true := decide_eq_true h0i
      obtain ⟨q, hq⟩ : ∃ j_ : Int, shr .i64 x sh = j_ := ⟨_, rfl⟩
      rw [hq] at hbi
      have hq_ : (x / 2 ^ min sh.toNat 64) = q := hq
      have hqz : sh ≤ 64 → (x / 2 ^ sh.toNat) = q := shr_small hq
      have HBI := Aside0.mk hbi
      clear hbi h0i
      go_wp2
      refine start_ (n := 15) (S := fun w' => w'.cell? ⟨g, 0, none⟩ = some u) (ds := [14]) #[false, false, false, false, false, false, false, false, false, false, false, false, false, false, false] (by kernel_rfl) rfl rfl (((blk_cell HG.out 0).trans rfl)) (fun hHeld => ?_)
      generalize wr.drew = wd at HG HR HB HKP hHeld ⊢
      refine pure_ (i := 0) (N := some 12) (v := ?_) (a' := ?_) #[true, false, false, false, false, false, false, false, false, false, false, false, false, false, false] rfl rfl (by kernel_rfl) (fun _ _ _ h => h) (Or.inl ⟨by rfl, ?_⟩) ?_ ?_
      rotate_left
      · intro w'
        go_simp
        with_reducible rfl
      rotate_left
      · simp only [Act.put, List.setIfInBounds_toArray, List.set_cons_zero, List.set_cons_succ, i64_w, i32_w]
        rfl
      refine pure_ (i := 1) (N := some 13) (v := ?_) (a' := ?_) #[true, true, false, false, false, false, false, false, false, false, false, false, false, false, false] rfl rfl (by kernel_rfl) (fun _ _ _ h => h) (Or.inl ⟨by rfl, ?_⟩) ?_ ?_
      rotate_left
      · intro w'
        go_simp
        with_reducible rfl
      rotate_left
      · simp only [Act.put, List.setIfInBounds_toArray, List.set_cons_zero, List.set_cons_succ, i64_w, i32_w]
        rfl
      refine pure_ (i := 2) (N := some 14) (v := ?_) (a' := ?_) #[true, true, true, false, false, false, false, false, false, false, false, false, false, false, false] rfl rfl (by kernel_rfl) (fun _ _ _ h => h) (Or.inl ⟨by rfl, ?_⟩) ?_ ?_
      rotate_left
      · intro w'
        go_simp
        with_reducible rfl
      rotate_left
      · simp only [Act.put, List.setIfInBounds_toArray, List.set_cons_zero, List.set_cons_succ, i64_w, i32_w]
        rfl
      refine pure_ (i := 3) (N := some 15) (v := ?_) (a' := ?_) #[true, true, true, true, false, false, false, false, false, false, false, false, false, false, false] rfl rfl (by kernel_rfl) (fun _ _ _ h => h) (Or.inl ⟨by rfl, ?_⟩) ?_ ?_
      rotate_left
      · intro w'
        go_simp
        with_reducible rfl
      rotate_left
      · simp only [Act.put, List.setIfInBounds_toArray, List.set_cons_zero, List.set_cons_succ, i64_w, i32_w]
        rfl
      refine pure_ (i := 5) (N := some 17) (v := ?_) (a' := ?_) #[true, true, true, true, false, true, false, false, false, false, false, false, false, false, false] rfl rfl (by kernel_rfl) (fun _ _ _ h => h) (Or.inl ⟨by rfl, ?_⟩) ?_ ?_
      rotate_left
      · intro w'
        go_simp
        with_reducible rfl
      rotate_left
      · simp only [Act.put, List.setIfInBounds_toArray, List.set_cons_zero, List.set_cons_succ, i64_w, i32_w]
        rfl
      refine pure_ (i := 6) (N := some 18) (v := ?_) (a' := ?_) #[true, true, true, true, false, true, true, false, false, false, false, false, false, false, false] rfl rfl (by kernel_rfl) (fun _ _ _ h => h) (Or.inl ⟨by rfl, ?_⟩) ?_ ?_
      rotate_left
      · intro w'
        go_simp
        with_reducible rfl
      rotate_left
      · simp only [Act.put, List.setIfInBounds_toArray, List.set_cons_zero, List.set_cons_succ, i64_w, i32_w]
        rfl
      refine pure_ (i := 7) (N := some 19) (v := ?_) (a' := ?_) #[true, true, true, true, false, true, true, true, false, false, false, false, false, false, false] rfl rfl (by kernel_rfl) (fun _ _ _ h => h) (Or.inl ⟨by rfl, ?_⟩) ?_ ?_
      rotate_left
      · intro w'
        go_simp
        with_reducible rfl
      rotate_left
      · simp only [Act.put, List.setIfInBounds_toArray, List.set_cons_zero, List.set_cons_succ, i64_w, i32_w]
        rfl
      refine pure_ (i := 8) (N := some 20) (v := ?_) (a' := ?_) #[true, true, true, true, false, true, true, true, true, false, false, false, false, false, false] rfl rfl (by kernel_rfl) (fun _ _ _ h => h) (Or.inl ⟨by rfl, ?_⟩) ?_ ?_
      rotate_left
      · intro w'
        go_simp
        with_reducible rfl
      rotate_left
      · simp only [Act.put, List.setIfInBounds_toArray, List.set_cons_zero, List.set_cons_succ, i64_w, i32_w]
        rfl
      refine pure_ (i := 9) (N := some 21) (v := ?_) (a' := ?_) #[true, true, true, true, false, true, true, true, true, true, false, false, false, false, false] rfl rfl (by kernel_rfl) (fun _ _ _ h => h) (Or.inl ⟨by rfl, ?_⟩) ?_ ?_
      rotate_left
      · intro w'
        go_simp
        with_reducible rfl
      rotate_left
      · simp only [Act.put, List.setIfInBounds_toArray, List.set_cons_zero, List.set_cons_succ, i64_w, i32_w]
        rfl
      refine take_ (i := 4) (N := some 16) (v := ?_) (a' := ?_) #[true, true, true, true, true, true, true, true, true, true, false, false, false, false, false] rfl rfl (by kernel_rfl) (fun _ _ _ h => h) (Or.inl ⟨by rfl, ?_⟩) hHeld ?_ ?_
      rotate_left
      · intro w' s0
        go_simp
        with_reducible rfl
      rotate_left
      · simp only [Act.put, List.setIfInBounds_toArray, List.set_cons_zero, List.set_cons_succ, i64_w, i32_w]
        rfl
      refine one_ (i := 10) (N := some 22) #[true, true, true, true, true, true, true, true, true, true, true, false, false, false, false] rfl rfl (by kernel_rfl) (by decide) (fun K hK => ?_)
      refine value_ (w1 := ?_) (v := ?_) (by rfl) rfl ?_ ?_
      rotate_left 2
      · go_simp
        constructor
        · rfl
        · rfl
      refine hK.out _ _ (((blk_cell (blk_alloc HG.out _) 0).trans rfl)) (fun hHeld => ?_)
      clear hK K
      refine norm_ (a' := ?_) ?_ ?_
      rotate_left
      · show Act.put _ (some 22) _ = _
        simp only [Act.put, List.setIfInBounds_toArray, List.set_cons_zero, List.set_cons_succ, i64_w, i32_w]
        rfl
      refine one_ (i := 11) (N := some 23) #[true, true, true, true, true, true, true, true, true, true, true, true, false, false, false] rfl rfl (by kernel_rfl) (by decide) (fun K hK => ?_)
      refine Kd.R_append_step (Kd.int .u8) (w0 := w0) w0.heap.size ?hw (.tmp 16) (.tmp 22) 67 5 (.int .u8 0) 1 ?ho Try.underlying67 info5 rfl (by decide) (by omega) u (l ++ byL x n j) (IntKind.u8.wrap q) [.int .u8 (IntKind.u8.wrap q)] (fun k => k ≠ g) (fun _ => False) ?hs ?hx ?aP (fun _ hk => hk.elim) ?aF ?aO ?aB ?aS ?aL ?_
      case hw => rfl
      case hs => rfl
      case ho => rfl
      case hx => rfl
      case aP => exact rfl
      case aF => exact fun k hk => by have := blk_lt HG.out; omega
      case aO => exact HR.out
      case aB => exact HB.out
      case aS => exact below_size HB.out
      case aL => have := LM.out; omega
      intro v1 w1 ho hb hg hat
      obtain ⟨L1, hL1⟩ : ∃ y : List Int, y = (l ++ byL x n j) ++ [IntKind.u8.wrap q] := ⟨_, rfl⟩
      rw [← hL1] at ho
      have hL2 : l ++ byL x n (j + 1) = L1 := by
        rw [HS.out, ← List.append_assoc, hL1, ← HX.out, HBI.out, IntKind.wrap_u8]
      have HL2 := Aside0.mk hL2
      clear hL1 hL2
      obtain ⟨A1, c1, rfl⟩ := Kd.R_slice ho
      have HG2 := Aside0.mk (blk_grown HG.out hg (fun h => (HR.out.1 g h.symm) rfl))
      have hfz2 := blk_frozen HG2.out 0
      have HKP2 : Aside0 (Kp w w1 g) := ⟨fun k c t ht hk hb_ => blk_grown (HKP.out k c t ht hk hb_) hg (Kd.R_ne HR.out (HKP.out k c t ht hk hb_) ht)⟩
      have HO2 := Aside0.mk ho
      have HB2 := Aside0.mk hb
      refine hK.out _ _ (((blk_cell HG2.out 0).trans rfl)) (fun hHeld => ?_)
      clear hK K
      refine norm_ (a' := ?_) ?_ ?_
      rotate_left
      · show Act.put _ (some 23) _ = _
        simp only [Act.put, List.setIfInBounds_toArray, List.set_cons_zero, List.set_cons_succ, i64_w, i32_w]
        rfl
      refine pure_ (i := 12) (N := some 24) (v := ?_) (a' := ?_) #[true, true, true, true, true, true, true, true, true, true, true, true, true, false, false] rfl rfl (by kernel_rfl) (fun _ _ _ h => h) (Or.inl ⟨by rfl, ?_⟩) ?_ ?_
      rotate_left
      · intro w'
        go_simp
        with_reducible rfl
      rotate_left
      · simp only [Act.put, List.setIfInBounds_toArray, List.set_cons_zero, List.set_cons_succ, i64_w, i32_w]
        rfl
      refine pure_ (i := 13) (N := some 25) (v := ?_) (a' := ?_) #[true, true, true, true, true, true, true, true, true, true, true, true, true, true, false] rfl rfl (by kernel_rfl) (fun _ _ _ h => h) (Or.inl ⟨by rfl, ?_⟩) ?_ ?_
      rotate_left
      · intro w'
        go_simp
        with_reducible rfl
      rotate_left
      · simp only [Act.put, List.setIfInBounds_toArray, List.set_cons_zero, List.set_cons_succ, i64_w, i32_w]
        rfl
      refine last_ (i := 14) (N := none) #[true, true, true, true, true, true, true, true, true, true, true, true, true, true, true] rfl rfl (by kernel_rfl) (by decide) (fun K hK => ?_)
      refine skip_ (w1 := ?_) (by rfl) rfl ?_ ?_
      rotate_left
      · go_simp
        rfl
      refine hK.out _ _ ?_
      clear hK K
      refine done_ (by kernel_rfl) ?_
      have HI2 : Aside0 (IsW w0 (w1.setCell ⟨g, 0, none⟩ (.slice A1 L1.length c1)) g (l ++ byL x n (j + 1))) :=
        ⟨⟨_, by simpa using blk_set HG2.out 0 (.slice A1 L1.length c1), HGE.out, by rw [HL2.out]; exact Kd.R_far (p := ⟨g, 0, none⟩) HO2.out (fun k hk => hk) _⟩⟩
      have HB3 : Aside0 (Below w0.heap.size w0 (w1.setCell ⟨g, 0, none⟩ (.slice A1 L1.length c1))) := ⟨HB2.out.setCell HGE.out _⟩
      have HKP3 : Aside0 (Kp w (w1.setCell ⟨g, 0, none⟩ (.slice A1 L1.length c1)) g) := ⟨fun k c t ht hk hb_ => (Below.heap_setCell w1 ⟨g, 0, none⟩ _ k hk).trans (HKP2.out k c t ht hk hb_)⟩
      generalize w1.setCell ⟨g, 0, none⟩ (.slice A1 L1.length c1) = wz at HI2 HB3 HKP3 ⊢
      go_wp2
      go_roundw
      case rel => exact ⟨j + 1, by have := HJ.out; have := HN.out; omega, by rw [Value.int.injEq]; exact ⟨rfl, by have := HX.out; omega⟩, HI2, HB3, HKP3⟩
      case measure => simp [intOf]; omega
end Go.Proofs.Ytbjknbfagadhfaa.V
