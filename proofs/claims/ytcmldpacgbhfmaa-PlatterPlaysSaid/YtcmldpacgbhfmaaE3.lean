/- The document's own platter: Store. -/
import Derived.Test.YtcmldpacgbhfmaaE2
namespace Go.Proofs.Ytcmldpacgbhfmaa.V
open Go.RowKit Go.Proofs.YtcmldpacgbhfmaaW.PrintWords Go.Proofs.YtcmldpacgbhfmaaW.PrintLast Go.Proofs.YtcmldpacgbhfmaaW.PrintMore
set_option linter.unusedVariables false
set_option linter.unusedSimpArgs false

theorem info70 : (Try.prog.info? 70).map (fun i => (i.zero, i.size, i.bytes)) = some (some (.agg #[(.int .i64 0), (.string ⟨#[]⟩)]), 2, 24) := by kernel_rfl
def storeRE (S : RS) (n : Int) (b : ByteArray) : Int := if S.dead = true then 7 else if n < 0 then 6 else if (S.last.length : Int) ≤ n then 6 else if b.size = 128 then (if S.after = 0 then 7 else 0) else 9
def aftR (a : Int) : Int := if 0 < a then wrap64 (a - 1) else a
def storeRS (S : RS) (n : Int) (b : ByteArray) : RS := if S.dead = true then S else if n < 0 then S else if (S.last.length : Int) ≤ n then S else if b.size = 128 then (if S.after = 0 then { S with dead := true } else { S with after := aftR S.after, float := S.float ++ [⟨n, b⟩] }) else S
set_option maxHeartbeats 8000000 in
set_option maxRecDepth 100000 in
theorem rstore_any {base : Nat} {F : Nat → Prop} {w : World} {g : Nat} {S : RS} (h : IsR base F w g S) (n : Int) (b : ByteArray) (hl : S.float.length ≤ 1000000) :
    Calls Try.prog 26 #[.pointer (some ⟨g, 0, none⟩), .int .i64 n, .string b] w fun e w' => e = .returned (.int .i64 (storeRE S n b)) ∧ IsR base (fun k => F k ∨ w.heap.size ≤ k) w' g (storeRS S n b) ∧ Kept w w' F ∧ (base ≤ w.heap.size → Below base w w') := by
  have HL := Aside0.mk hl
  have HP := Aside0.mk h
  have HP2 := Aside0.mk (h.mono (fun k hk => (.inl hk : F k ∨ w.heap.size ≤ k)))
  obtain ⟨A, c, B, d, h1, h2, h3, h6, h7⟩ := h.cells
  obtain ⟨c0, c1, c2, c3⟩ := cell55 h1
  have f1 := blk_frozen h1 1
  have f2 := blk_frozen h1 2
  have f3 := blk_frozen h1 3
  have G1 := Aside0.mk h1
  have G2 := Aside0.mk h2
  have G3 := Aside0.mk h3
  have G6 := Aside0.mk h6
  have G7 := Aside0.mk h7
  unfold storeRE storeRS
  clear h h1 h2 h3 h6 h7 hl
  cases hh : S.dead with
  | true =>
    rw [hh] at c2
    simp only [if_true]
    go_enter Try.func26, Try.ntmps26
    go_wp2
    go_ret
    exact ⟨rfl, HP2.out, Kept.refl _ _, fun hle => Below.refl _ _⟩
  | false =>
    rw [hh] at c2
    simp only [Bool.false_eq_true, if_false]
    by_cases hn : n < 0
    · rw [if_pos hn, if_pos hn]
      have t0 := decide_eq_true hn
      clear hn
      go_enter Try.func26, Try.ntmps26
      go_wp2
      go_ret
      exact ⟨rfl, HP2.out, Kept.refl _ _, fun hle => Below.refl _ _⟩
    rw [if_neg hn, if_neg hn]
    have t0 := decide_eq_false hn
    by_cases hm : (S.last.length : Int) ≤ n
    · rw [if_pos hm, if_pos hm]
      have t1 := decide_eq_true hm
      clear hn hm
      go_enter Try.func26, Try.ntmps26
      go_wp2
      go_ret
      exact ⟨rfl, HP2.out, Kept.refl _ _, fun hle => Below.refl _ _⟩
    rw [if_neg hm, if_neg hm]
    have t1 := decide_eq_false hm
    clear hn hm
    by_cases hs : b.size = 128
    · rw [if_pos hs, if_pos hs]
      have s1 : ((b.size : Int) != 128) = false := by simp; omega
      have s2 : ((b.size : Int) == 128) = true := by simp; omega
      have s3 : (b.size == 128) = true := by simp; omega
      clear hs
      by_cases ha : S.after = 0
      · rw [if_pos ha, if_pos ha]
        rw [ha] at c3
        clear ha
        go_enter Try.func26, Try.ntmps26
        go_wp2
        go_ret
        exact ⟨rfl, HP2.out.set2 true, (Kept.refl _ _).setCell (.inl G3.out) _, fun hle => below_setG (Below.refl _ _) G2.out _ _⟩
      · rw [if_neg ha, if_neg ha]
        have a1 : (S.after == 0) = false := beq_eq_false_iff_ne.mpr ha
        clear ha
        by_cases hz : 0 < S.after
        · have z1 := decide_eq_true hz
          have haf : aftR S.after = wrap64 (S.after - 1) := if_pos hz
          rw [haf]
          clear hz haf
          have KW : (w.setCell ⟨g, 3, none⟩ (Value.int IntKind.i64 (wrap64 (S.after - 1)))).heap[g]? = some (.cells #[.slice A S.last.length c, .slice B S.float.length d, .bool S.dead, .int .i64 (wrap64 (S.after - 1))] 55 (0, 0)) := by simpa using blk_set G1.out 3 (Value.int IntKind.i64 (wrap64 (S.after - 1)))
          have KG := Aside0.mk KW
          have R6 : Aside0 (Kd.R Kd.string 9 (w.setCell ⟨g, 3, none⟩ (Value.int IntKind.i64 (wrap64 (S.after - 1)))) base F (.slice A S.last.length c) S.last) := ⟨Kd.R_set G6.out G1.out T9' 3 _⟩
          have R7 : Aside0 (Kd.R k65 70 (w.setCell ⟨g, 3, none⟩ (Value.int IntKind.i64 (wrap64 (S.after - 1)))) base F (.slice B S.float.length d) S.float) := ⟨Kd.R_set G7.out G1.out T70 3 _⟩
          have SW : Aside0 (w.heap.size ≤ (w.setCell ⟨g, 3, none⟩ (Value.int IntKind.i64 (wrap64 (S.after - 1)))).heap.size) := ⟨by simp [World.setCell]⟩
          clear KW
          go_enter Try.func26, Try.ntmps26
          go_wp2_with (first
            | ((with_reducible refine gate_builtin (b := .append) (xs := #[.const (Value.slice none 0 0), .tmp 53]) rfl ?_); at_builtin
               go_must (refine Kd.R_append_rows k65 (Rr := k65.K (w.setCell ⟨g, 3, none⟩ (Value.int IntKind.i64 (wrap64 (S.after - 1))))) base rfl (.const (Value.slice none 0 0)) (.tmp 53) 53 70 (.agg #[(.int .i64 0), (.string ⟨#[]⟩)]) 24 rfl Try.underlying53 info70 rfl (by decide) (by omega) (.slice none 0 0) [] S.float B S.float.length d (fun k => F k ∨ w.heap.size ≤ k) (fun _ => False) rfl rfl (Kd.R_nil _ _ _ _ _) (Kd.R_reads' R7.out).2.2 (fun x cs hx => by rw [k65_open hx]; exact k65_mkM _ _ _ _) (fun _ hk => hk.elim) (fun k hk => .inr (Nat.le_trans SW.out hk)) (Below.refl base _) ?aS (by have := HL.out; simp; omega) ?_)
               (case aS => exact Nat.le_trans G2.out (Nat.le_trans (Nat.le_of_lt (blk_lt G1.out)) SW.out))
               intro v2 w2 ho hb2 hg2 hat2
               rw [List.nil_append] at ho
               obtain ⟨A2, d2, e2⟩ := Kd.R_slice ho
               subst e2
               have E1 := Aside0.mk ho
               have E2 := Aside0.mk hb2
               have E3 := Aside0.mk hg2
               have K2 := (hg2.block g (blk_lt KG.out) (by simp [Value.ownBlock])).trans KG.out
               have J2 := Aside0.mk K2
               clear ho hb2 hg2 hat2 K2)
            | ((with_reducible refine gate_builtin (b := .append) (xs := #[.tmp 54, .tmp 58]) rfl ?_); at_builtin
               go_must (refine Kd.R_append k65 base rfl (.tmp 54) (.tmp 58) 53 70 (.agg #[(.int .i64 0), (.string ⟨#[]⟩)]) 24 rfl Try.underlying53 info70 rfl (by decide) (by omega) (.slice A2 S.float.length d2) S.float (⟨n, b⟩ : S65) [.int .i64 n, .string b] (fun k => F k ∨ w.heap.size ≤ k) (fun _ => False) rfl rfl (k65_mkM _ _ _ (⟨n, b⟩ : S65)) (fun _ hk => hk.elim) ?aF E1.out (Below.refl base _) ?aS ?aL ?_)
               (case aF => exact fun k hk => .inr (Nat.le_trans SW.out (Nat.le_trans E3.out.size hk)))
               (case aS => exact Nat.le_trans G2.out (Nat.le_of_lt (blk_lt J2.out)))
               (case aL => have := HL.out; omega)
               intro v3 w3 ho hb3 hg3 hat3
               obtain ⟨A3, d3, e3⟩ := Kd.R_slice ho
               obtain ⟨l3, hl3⟩ : ∃ l3 : Nat, l3 = (S.float ++ [(⟨n, b⟩ : S65)]).length := ⟨_, rfl⟩
               rw [← hl3] at e3
               clear hl3
               subst e3
               have E4 := Aside0.mk ho
               have E5 := Aside0.mk hb3
               have E6 := Aside0.mk hg3
               have K3 := (hg3.block g (blk_lt J2.out) (own_blk E1.out J2.out (by decide))).trans J2.out
               have J3 := Aside0.mk K3
               have hf31 := blk_frozen K3 1
               obtain ⟨_, c31, _, _⟩ := cell55 K3
               clear ho hb3 hg3 hat3 K3))
          go_ret
          have S2 : Kd.R Kd.string 9 w2 base F (.slice A S.last.length c) S.last := by
            have a6 := R6.out
            exact Kd.R_grown2 a6 rfl E3.out (by intro k hk; simp [Value.ownBlock] at hk)
          have ot := own_types E1.out S2 (by decide)
          have S3 : Kd.R Kd.string 9 w3 base F (.slice A S.last.length c) S.last := by
            exact Kd.R_grown2 S2 rfl E6.out ot
          have Q3 : (w3.setCell ⟨g, 1, none⟩ (Value.slice A3 l3 d3)).heap[g]? = some (.cells #[.slice A S.last.length c, Value.slice A3 l3 d3, .bool S.dead, .int .i64 (wrap64 (S.after - 1))] 55 (0, 0)) := by simpa using blk_set J3.out 1 (Value.slice A3 l3 d3)
          refine ⟨rfl, ⟨_, _, by rw [Q3, hh], G2.out, .inl G3.out, Kd.R_mono (Kd.R_set S3 J3.out T9' 1 _) (fun _ hk => .inl hk), Kd.R_set E4.out J3.out T70 1 _⟩, ?_, ?_⟩
          · have k1 : Kept w (w.setCell ⟨g, 3, none⟩ (Value.int IntKind.i64 (wrap64 (S.after - 1)))) F := (Kept.refl _ _).setCell (.inl G3.out) _
            exact (kept_grown (kept_grown k1 E3.out (fun k hk => by simp [Value.ownBlock] at hk)) E6.out (fun k hk => (E1.out.1 k hk))).setCell (.inl G3.out) _
          · intro hw
            have b1 : Below base w (w.setCell ⟨g, 3, none⟩ (Value.int IntKind.i64 (wrap64 (S.after - 1)))) := below_setG (Below.refl _ _) G2.out _ _
            exact below_setG ((b1.trans E2.out).trans E5.out) G2.out 1 _
        · have z1 := decide_eq_false hz
          have haf : aftR S.after = S.after := if_neg hz
          rw [haf]
          clear hz haf
          have KW : w.heap[g]? = some (.cells #[.slice A S.last.length c, .slice B S.float.length d, .bool S.dead, .int .i64 S.after] 55 (0, 0)) := G1.out
          have KG := Aside0.mk KW
          have R6 : Aside0 (Kd.R Kd.string 9 w base F (.slice A S.last.length c) S.last) := ⟨G6.out⟩
          have R7 : Aside0 (Kd.R k65 70 w base F (.slice B S.float.length d) S.float) := ⟨G7.out⟩
          have SW : Aside0 (w.heap.size ≤ w.heap.size) := ⟨Nat.le_refl _⟩
          clear KW
          go_enter Try.func26, Try.ntmps26
          go_wp2_with (first
            | ((with_reducible refine gate_builtin (b := .append) (xs := #[.const (Value.slice none 0 0), .tmp 53]) rfl ?_); at_builtin
               go_must (refine Kd.R_append_rows k65 (Rr := k65.K w) base rfl (.const (Value.slice none 0 0)) (.tmp 53) 53 70 (.agg #[(.int .i64 0), (.string ⟨#[]⟩)]) 24 rfl Try.underlying53 info70 rfl (by decide) (by omega) (.slice none 0 0) [] S.float B S.float.length d (fun k => F k ∨ w.heap.size ≤ k) (fun _ => False) rfl rfl (Kd.R_nil _ _ _ _ _) (Kd.R_reads' R7.out).2.2 (fun x cs hx => by rw [k65_open hx]; exact k65_mkM _ _ _ _) (fun _ hk => hk.elim) (fun k hk => .inr (Nat.le_trans SW.out hk)) (Below.refl base _) ?aS (by have := HL.out; simp; omega) ?_)
               (case aS => exact Nat.le_trans G2.out (Nat.le_trans (Nat.le_of_lt (blk_lt G1.out)) SW.out))
               intro v2 w2 ho hb2 hg2 hat2
               rw [List.nil_append] at ho
               obtain ⟨A2, d2, e2⟩ := Kd.R_slice ho
               subst e2
               have E1 := Aside0.mk ho
               have E2 := Aside0.mk hb2
               have E3 := Aside0.mk hg2
               have K2 := (hg2.block g (blk_lt KG.out) (by simp [Value.ownBlock])).trans KG.out
               have J2 := Aside0.mk K2
               clear ho hb2 hg2 hat2 K2)
            | ((with_reducible refine gate_builtin (b := .append) (xs := #[.tmp 54, .tmp 58]) rfl ?_); at_builtin
               go_must (refine Kd.R_append k65 base rfl (.tmp 54) (.tmp 58) 53 70 (.agg #[(.int .i64 0), (.string ⟨#[]⟩)]) 24 rfl Try.underlying53 info70 rfl (by decide) (by omega) (.slice A2 S.float.length d2) S.float (⟨n, b⟩ : S65) [.int .i64 n, .string b] (fun k => F k ∨ w.heap.size ≤ k) (fun _ => False) rfl rfl (k65_mkM _ _ _ (⟨n, b⟩ : S65)) (fun _ hk => hk.elim) ?aF E1.out (Below.refl base _) ?aS ?aL ?_)
               (case aF => exact fun k hk => .inr (Nat.le_trans SW.out (Nat.le_trans E3.out.size hk)))
               (case aS => exact Nat.le_trans G2.out (Nat.le_of_lt (blk_lt J2.out)))
               (case aL => have := HL.out; omega)
               intro v3 w3 ho hb3 hg3 hat3
               obtain ⟨A3, d3, e3⟩ := Kd.R_slice ho
               obtain ⟨l3, hl3⟩ : ∃ l3 : Nat, l3 = (S.float ++ [(⟨n, b⟩ : S65)]).length := ⟨_, rfl⟩
               rw [← hl3] at e3
               clear hl3
               subst e3
               have E4 := Aside0.mk ho
               have E5 := Aside0.mk hb3
               have E6 := Aside0.mk hg3
               have K3 := (hg3.block g (blk_lt J2.out) (own_blk E1.out J2.out (by decide))).trans J2.out
               have J3 := Aside0.mk K3
               have hf31 := blk_frozen K3 1
               obtain ⟨_, c31, _, _⟩ := cell55 K3
               clear ho hb3 hg3 hat3 K3))
          go_ret
          have S2 : Kd.R Kd.string 9 w2 base F (.slice A S.last.length c) S.last := by
            have a6 := R6.out
            exact Kd.R_grown2 a6 rfl E3.out (by intro k hk; simp [Value.ownBlock] at hk)
          have ot := own_types E1.out S2 (by decide)
          have S3 : Kd.R Kd.string 9 w3 base F (.slice A S.last.length c) S.last := by
            exact Kd.R_grown2 S2 rfl E6.out ot
          have Q3 : (w3.setCell ⟨g, 1, none⟩ (Value.slice A3 l3 d3)).heap[g]? = some (.cells #[.slice A S.last.length c, Value.slice A3 l3 d3, .bool S.dead, .int .i64 S.after] 55 (0, 0)) := by simpa using blk_set J3.out 1 (Value.slice A3 l3 d3)
          refine ⟨rfl, ⟨_, _, by rw [Q3, hh], G2.out, .inl G3.out, Kd.R_mono (Kd.R_set S3 J3.out T9' 1 _) (fun _ hk => .inl hk), Kd.R_set E4.out J3.out T70 1 _⟩, ?_, ?_⟩
          · have k1 : Kept w w F := Kept.refl _ _
            exact (kept_grown (kept_grown k1 E3.out (fun k hk => by simp [Value.ownBlock] at hk)) E6.out (fun k hk => (E1.out.1 k hk))).setCell (.inl G3.out) _
          · intro hw
            have b1 : Below base w w := Below.refl _ _
            exact below_setG ((b1.trans E2.out).trans E5.out) G2.out 1 _
    · rw [if_neg hs, if_neg hs]
      have s1 : ((b.size : Int) != 128) = true := by simp; omega
      have s2 : ((b.size : Int) == 128) = false := by simp; omega
      have s3 : (b.size == 128) = false := by simp; omega
      clear hs
      go_enter Try.func26, Try.ntmps26
      go_wp2
      go_ret
      exact ⟨rfl, HP2.out, Kept.refl _ _, fun hle => Below.refl _ _⟩
end Go.Proofs.Ytcmldpacgbhfmaa.V
