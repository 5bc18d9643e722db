/- A platter: Twin. -/
import Derived.Test.YtcmldpacgbhfmaaC5
import Derived.Deep.RegionWith
import Derived.Deep.RegionHeld3
import Derived.Deep.DeepCutAuto
namespace Go.Proofs.Ytcmldpacgbhfmaa.V
open Go.RowKit Go.Proofs.YtcmldpacgbhfmaaW.PrintWords Go.Proofs.YtcmldpacgbhfmaaW.PrintLast Go.Proofs.YtcmldpacgbhfmaaW.PrintMore
set_option linter.unusedVariables false
set_option linter.unusedSimpArgs false

/-- the map that the first i of what is afloat make -/
def lastOf (l : List S65) : Int → Option ByteArray := l.foldl (fun f p => upd f p.f0 p.f1) (fun _ => none)
def twS (S : PS) : PS := { S with last := lastOf S.afl }
theorem lastOf_snoc (l : List S65) (p : S65) : lastOf (l ++ [p]) = upd (lastOf l) p.f0 p.f1 := by
  unfold lastOf
  rw [List.foldl_append]; rfl
section
variable {w W0 w7 : World} {q : Nat} {S : PS} {C9 C7 : Option Addr} {n9 n7 cc9 cc7 b9 b7 : Nat} {x1 v0 v2 : Value}
/-- what the three stores leave -/
theorem tw_stores (hq : w7.heap[q]? = some (.cells #[v0, x1, v2, .bool S.halts, .int .i64 S.after, .bool S.halted] 62 (0, 0))) (hwq : w.heap.size ≤ q)
    (h9 : Kd.R Kd.string 9 w7 b9 (fun k => b9 ≤ k) (.slice C9 n9 cc9) S.safe) (h7 : Kd.R k65 65 w7 b7 (fun k => b7 ≤ k) (.slice C7 n7 cc7) S.afl) (e9 : w.heap.size ≤ b9) (e7 : w.heap.size ≤ b7) (hb : Below w.heap.size w w7) (mm : Nat) :
    (((w7.setCell ⟨q, 0, none⟩ (.slice C9 n9 cc9)).setCell ⟨q, 2, none⟩ (.slice C7 n7 cc7)).setCell ⟨q, 1, none⟩ (.map (some mm))).heap[q]? = some (.cells #[.slice C9 n9 cc9, .map (some mm), .slice C7 n7 cc7, .bool S.halts, .int .i64 S.after, .bool S.halted] 62 (0, 0)) ∧
    Kd.R Kd.string 9 (((w7.setCell ⟨q, 0, none⟩ (.slice C9 n9 cc9)).setCell ⟨q, 2, none⟩ (.slice C7 n7 cc7)).setCell ⟨q, 1, none⟩ (.map (some mm))) w.heap.size (fun k => w.heap.size ≤ k) (.slice C9 n9 cc9) S.safe ∧
    Kd.R k65 65 (((w7.setCell ⟨q, 0, none⟩ (.slice C9 n9 cc9)).setCell ⟨q, 2, none⟩ (.slice C7 n7 cc7)).setCell ⟨q, 1, none⟩ (.map (some mm))) w.heap.size (fun k => w.heap.size ≤ k) (.slice C7 n7 cc7) S.afl ∧
    Below w.heap.size w (((w7.setCell ⟨q, 0, none⟩ (.slice C9 n9 cc9)).setCell ⟨q, 2, none⟩ (.slice C7 n7 cc7)).setCell ⟨q, 1, none⟩ (.map (some mm))) := by
  have T65 : ∀ q, q ∈ 65 :: k65.E → q ≠ 62 := by intro q hq; simp [k65, Kd.iso, Kd.pair, Kd.int, Kd.string, Kd.scalar] at hq; omega
  have T9 : ∀ q, q ∈ 9 :: Kd.string.E → q ≠ 62 := by intro q hq; simp [Kd.string, Kd.scalar] at hq; omega
  have q1 : (w7.setCell ⟨q, 0, none⟩ (.slice C9 n9 cc9)).heap[q]? = some (.cells #[.slice C9 n9 cc9, x1, v2, .bool S.halts, .int .i64 S.after, .bool S.halted] 62 (0, 0)) := by simpa using blk_set hq 0 (.slice C9 n9 cc9)
  have q2 : ((w7.setCell ⟨q, 0, none⟩ (.slice C9 n9 cc9)).setCell ⟨q, 2, none⟩ (.slice C7 n7 cc7)).heap[q]? = some (.cells #[.slice C9 n9 cc9, x1, .slice C7 n7 cc7, .bool S.halts, .int .i64 S.after, .bool S.halted] 62 (0, 0)) := by simpa using blk_set q1 2 (.slice C7 n7 cc7)
  have g9 := Kd.R_mono (Kd.R_lower h9 e9) (fun k hk => Nat.le_trans e9 hk)
  have g7 := Kd.R_mono (Kd.R_lower h7 e7) (fun k hk => Nat.le_trans e7 hk)
  refine ⟨by simpa using blk_set q2 1 (.map (some mm)), Kd.R_set (Kd.R_set (Kd.R_set g9 hq T9 0 _) q1 T9 2 _) q2 T9 1 _, Kd.R_set (Kd.R_set (Kd.R_set g7 hq T65 0 _) q1 T65 2 _) q2 T65 1 _, below_setG (below_setG (below_setG hb hwq _ _) hwq _ _) hwq _ _⟩
theorem tw_old (hq : w7.heap[q]? = some (.cells #[v0, x1, v2, .bool S.halts, .int .i64 S.after, .bool S.halted] 62 (0, 0))) (hwq : w.heap.size ≤ q)
    (h9 : Kd.R Kd.string 9 w7 b9 (fun k => b9 ≤ k) (.slice C9 n9 cc9) S.safe) (h7 : Kd.R k65 65 w7 b7 (fun k => b7 ≤ k) (.slice C7 n7 cc7) S.afl) (e9 : w.heap.size ≤ b9) (e7 : w.heap.size ≤ b7) (hb : Below w.heap.size w w7) {mm : Nat} (hm : IsLast w7 mm (fun _ => none)) (hle : w.heap.size ≤ mm) :
    IsP w.heap.size (fun k => w.heap.size ≤ k) (((w7.setCell ⟨q, 0, none⟩ (.slice C9 n9 cc9)).setCell ⟨q, 2, none⟩ (.slice C7 n7 cc7)).setCell ⟨q, 1, none⟩ (.map (some mm))) q { S with last := fun _ => none } ∧ Below w.heap.size w (((w7.setCell ⟨q, 0, none⟩ (.slice C9 n9 cc9)).setCell ⟨q, 2, none⟩ (.slice C7 n7 cc7)).setCell ⟨q, 1, none⟩ (.map (some mm))) := by
  obtain ⟨a1, a2, a3, a4⟩ := tw_stores hq hwq h9 h7 e9 e7 hb mm
  have ne : mm ≠ q := last_ne hm hq
  exact ⟨⟨_, mm, _, a1, hwq, hwq, hle, hle, a2, a3, ((hm.at (Below.heap_setCell _ _ _ _ ne)).at (Below.heap_setCell _ _ _ _ ne)).at (Below.heap_setCell _ _ _ _ ne)⟩, a4⟩
theorem tw_new (hq : w7.heap[q]? = some (.cells #[v0, x1, v2, .bool S.halts, .int .i64 S.after, .bool S.halted] 62 (0, 0))) (hwq : w.heap.size ≤ q)
    (h9 : Kd.R Kd.string 9 w7 b9 (fun k => b9 ≤ k) (.slice C9 n9 cc9) S.safe) (h7 : Kd.R k65 65 w7 b7 (fun k => b7 ≤ k) (.slice C7 n7 cc7) S.afl) (e9 : w.heap.size ≤ b9) (e7 : w.heap.size ≤ b7) (hb : Below w.heap.size w w7) :
    IsP w.heap.size (fun k => w.heap.size ≤ k) ((((w7.setCell ⟨q, 0, none⟩ (.slice C9 n9 cc9)).setCell ⟨q, 2, none⟩ (.slice C7 n7 cc7)).setCell ⟨q, 1, none⟩ (.map (some w7.heap.size))).alloc (.map #[] 0)) q { S with last := fun _ => none } ∧ Below w.heap.size w ((((w7.setCell ⟨q, 0, none⟩ (.slice C9 n9 cc9)).setCell ⟨q, 2, none⟩ (.slice C7 n7 cc7)).setCell ⟨q, 1, none⟩ (.map (some w7.heap.size))).alloc (.map #[] 0)) := by
  obtain ⟨a1, a2, a3, a4⟩ := tw_stores hq hwq h9 h7 e9 e7 hb w7.heap.size
  have hsz : (((w7.setCell ⟨q, 0, none⟩ (.slice C9 n9 cc9)).setCell ⟨q, 2, none⟩ (.slice C7 n7 cc7)).setCell ⟨q, 1, none⟩ (.map (some w7.heap.size))).heap.size = w7.heap.size := by simp [World.setCell]
  have ba := below_alloc (Below.refl _ (((w7.setCell ⟨q, 0, none⟩ (.slice C9 n9 cc9)).setCell ⟨q, 2, none⟩ (.slice C7 n7 cc7)).setCell ⟨q, 1, none⟩ (.map (some w7.heap.size)))) (.map #[] 0)
  have hl := IsLast.made (((w7.setCell ⟨q, 0, none⟩ (.slice C9 n9 cc9)).setCell ⟨q, 2, none⟩ (.slice C7 n7 cc7)).setCell ⟨q, 1, none⟩ (.map (some w7.heap.size)))
  rw [hsz] at hl
  exact ⟨⟨_, w7.heap.size, _, (ba.block q (blk_lt a1)).trans a1, hwq, hwq, hb.size, hb.size, Kd.R_below a2 ba, Kd.R_below a3 ba, hl⟩, below_alloc a4 _⟩
end
set_option maxHeartbeats 8000000 in
set_option maxRecDepth 100000 in
theorem twin_any {base : Nat} {F : Nat → Prop} {w : World} {g : Nat} {S : PS} (h : IsP base F w g S) (hl : S.afl.length ≤ 1000) (hs : S.safe.length ≤ 1000) (hw : ∀ p ∈ S.afl, (Lit.int .i64 p.f0).wf = true) :
    Calls Try.prog 22 #[.pointer (some ⟨g, 0, none⟩)] w fun e w' => ∃ g', e = .returned (.pointer (some ⟨g', 0, none⟩)) ∧ IsP w.heap.size (fun k => w.heap.size ≤ k) w' g' (twS S) ∧ Below w.heap.size w w' := by
  have HL := Aside0.mk hl
  have HS := Aside0.mk hs
  obtain ⟨A, c, m, B, d, h1, h2, h3, h4, h5, h6, h7, h8⟩ := h.cells
  have G1 := Aside0.mk h1
  have G6 := Aside0.mk h6
  have G7 := Aside0.mk h7
  obtain ⟨c0, c1, c2, c3, c4, c5⟩ := cell62 h1
  have hmm := @run_makeMap Try.prog
  clear h h2 h3 h4 h5 h6 h7 h8 hl hs
  go_enter Try.func22, Try.ntmps22
  go_upto_region 4 with (fail)
  have hq := (MapKept.heap_alloc w (.cells #[.slice A S.safe.length c, .map (some m), .slice B S.afl.length d, .bool S.halts, .int .i64 S.after, .bool S.halted] 62)).1
  obtain ⟨W0, hW0⟩ : ∃ W0, W0 = w.alloc (.cells #[.slice A S.safe.length c, .map (some m), .slice B S.afl.length d, .bool S.halts, .int .i64 S.after, .bool S.halted] 62) := ⟨_, rfl⟩
  rw [← hW0] at hq ⊢
  have hs0 : w.heap.size < W0.heap.size := blk_lt hq
  have hb0 : Below w.heap.size w W0 := by rw [hW0]; exact below_alloc (Below.refl _ _) _
  obtain ⟨q, eq⟩ : ∃ q, q = w.heap.size := ⟨_, rfl⟩
  rw [← eq] at hq ⊢
  have EQ := Aside0.mk eq
  have KQ := Aside0.mk hq
  have B0 := Aside0.mk hb0
  have S0 := Aside0.mk hs0
  have HB := Aside0.mk (Below.refl W0.heap.size W0)
  have Z6 := Aside0.mk (Kd.R_below G6.out hb0)
  have Z7 := Aside0.mk (Kd.R_below G7.out hb0)
  have Z1 := Aside0.mk ((hb0.block g (blk_lt G1.out)).trans G1.out)
  have hc0 := cell62 Z1.out
  clear c0 c1 c2 c3 c4 c5
  obtain ⟨c0, c1, c2, c3, c4, c5⟩ := hc0
  have f0 := blk_frozen hq 0
  have f1 := blk_frozen hq 1
  have f2 := blk_frozen hq 2
  have l0q := blk_lt hq
  have hcq := cell62 hq
  obtain ⟨q00, q01, q02, _, _, _⟩ := hcq
  have l0g := blk_lt Z1.out
  clear hW0 eq hq hb0 hs0
  have gq : g ≠ q := by have := EQ.out; have := blk_lt G1.out; omega
  have gq2 : q ≠ g := fun e => gq e.symm
  go_cut [3] from 11 to 24 (fun v3 wx => v3 = .pointer (some ⟨q, 0, none⟩) ∧ Aside0 (IsP w.heap.size (fun k => w.heap.size ≤ k) wx q { S with last := fun _ => none } ∧ Below w.heap.size w wx))
  case first =>
    go_region_held3 (fun W' => W'.cell? ⟨g, 0, none⟩ = some (.slice A S.safe.length c) ∧ W'.cell? ⟨g, 2, none⟩ = some (.slice B S.afl.length d)) (go_keep) (first
      | (go_at_call 34; go_must (refine (clone9 (Kd.R_below Z6.out (by repeat (first | (with_reducible first | exact HB.out | apply below_alloc | apply pw_below_drewN | apply below_drew1) | exact HB.out))) (Nat.le_trans HS.out (by decide))).mono ?_); rintro e w9 ⟨v9, rfl, hr9, hb9⟩; obtain ⟨C9, cc9, rfl⟩ := Kd.R_slice hr9; have n0_ := Aside0.mk (below_step (by repeat (first | (with_reducible first | exact HB.out | apply below_alloc | apply pw_below_drewN | apply below_drew1) | exact HB.out)) hb9); clear HB; have HB := n0_; clear n0_; have R9 := Aside0.mk hr9; have N9 := Aside0.mk hb9; have K9 := Aside0.mk ((HB.out.block q (blk_lt KQ.out)).trans KQ.out); have f90 := blk_frozen K9.out 0; have f91 := blk_frozen K9.out 1; have f92 := blk_frozen K9.out 2; obtain ⟨c90, _, c92, _, _, _⟩ := cell62 ((HB.out.block g (blk_lt Z1.out)).trans Z1.out); have l9q := blk_lt K9.out; obtain ⟨q90, q91, q92, _, _, _⟩ := cell62 K9.out; have l9g := blk_lt ((HB.out.block g (blk_lt Z1.out)).trans Z1.out); clear hr9 hb9)
      | (go_at_call 35; go_must (refine (clone65 (Kd.R_below Z7.out (by repeat (first | (with_reducible first | exact HB.out | apply below_alloc | apply pw_below_drewN | apply below_drew1) | exact HB.out))) (Nat.le_trans HL.out (by decide))).mono ?_); rintro e w7 ⟨v7, rfl, hr7, hb7⟩; obtain ⟨C7, cc7, rfl⟩ := Kd.R_slice hr7; have n0_ := Aside0.mk (below_step (by repeat (first | (with_reducible first | exact HB.out | apply below_alloc | apply pw_below_drewN | apply below_drew1) | exact HB.out)) hb7); clear HB; have HB := n0_; clear n0_; have R7 := Aside0.mk hr7; have N7 := Aside0.mk hb7; have K7 := Aside0.mk ((HB.out.block q (blk_lt KQ.out)).trans KQ.out); have f70 := blk_frozen K7.out 0; have f71 := blk_frozen K7.out 1; have f72 := blk_frozen K7.out 2; obtain ⟨c70, _, c72, _, _, _⟩ := cell62 ((HB.out.block g (blk_lt Z1.out)).trans Z1.out); have l7q := blk_lt K7.out; obtain ⟨q70, q71, q72, _, _, _⟩ := cell62 K7.out; have l7g := blk_lt ((HB.out.block g (blk_lt Z1.out)).trans Z1.out); clear hr7 hb7))
    all_goals (go_wp2_with (fail); go_meet)
    all_goals first
      | (refine ⟨rfl, ⟨tw_new K7.out (Nat.le_of_eq EQ.out.symm) (Kd.R_below R9.out N7.out) R7.out ?_ ?_ ?_⟩⟩
         · exact B0.out.size
         · exact Nat.le_trans B0.out.size N9.out.size
         · exact B0.out.trans (HB.out.mono B0.out.size))
      | (refine ⟨rfl, ⟨tw_old K7.out (Nat.le_of_eq EQ.out.symm) (Kd.R_below R9.out N7.out) R7.out ?_ ?_ ?_ (((IsLast.made W0).at (N9.out.block W0.heap.size (by show _ < (W0.alloc _).heap.size; simp))).at (N7.out.block _ ((IsLast.made W0).at (N9.out.block W0.heap.size (by show _ < (W0.alloc _).heap.size; simp))).lt)) B0.out.size⟩⟩
         · have := B0.out.size; show _ ≤ (W0.alloc _).heap.size; simp; omega
         · have h1 := B0.out.size; have h2 : (W0.alloc (Obj.map #[] 0)).heap.size ≤ w9.heap.size := N9.out.size; simp at h2; omega
         · exact B0.out.trans (HB.out.mono B0.out.size))
      | (refine ⟨rfl, ⟨tw_old K7.out (Nat.le_of_eq EQ.out.symm) (Kd.R_below (Kd.R_alloc R9.out _) N7.out) R7.out ?_ ?_ ?_ ((IsLast.made w9).at (N7.out.block w9.heap.size (by simp))) (Nat.le_trans B0.out.size N9.out.size)⟩⟩
         · exact B0.out.size
         · have h1 := B0.out.size; have h2 : W0.heap.size ≤ w9.heap.size := N9.out.size; simp; omega
         · exact B0.out.trans (HB.out.mono B0.out.size))
  case rest =>
    obtain ⟨rfl, HCUT⟩ := hcut
    obtain ⟨A9, cp, m9, B9, dp, i1, i2, i3, i4, i5, i6, i7, i8⟩ := HCUT.out.1.cells
    have hbc := Aside0.mk HCUT.out.2
    have HE := Aside0.mk (Nat.le_of_eq EQ.out.symm)
    obtain ⟨n, hn⟩ : ∃ n, n = w.heap.size := ⟨_, rfl⟩
    rw [← hn] at i2 i3 i4 i5 i6 i7
    have HN := Aside0.mk hn
    have Q1 := Aside0.mk i1
    have Q4 := Aside0.mk i4
    have Q6 := Aside0.mk i6
    have Q7 := Aside0.mk i7
    have Q8 := Aside0.mk i8
    have W8 := Aside0.mk hw
    obtain ⟨x0, x1, x2, x3, x4, x5⟩ := cell62 i1
    clear i1 i2 i3 i4 i5 i6 i7 i8 hn hw h1 c0 c1 c2 c3 c4 c5 f0 f1 f2 l0q l0g q00 q01 q02 HCUT Z1 Z6 Z7 HB
    go_wp2
    go_loopg [28] S.afl.length (fun kq v28 w' => ∃ i : Nat, v28 = .int .i64 i ∧ Aside0 (i + kq = S.afl.length) ∧ Aside0 (w'.heap[q]? = some (.cells #[.slice A9 S.safe.length cp, .map (some m9), .slice B9 S.afl.length dp, .bool S.halts, .int .i64 S.after, .bool S.halted] 62 (0, 0))) ∧ Aside0 (Kd.R Kd.string 9 w' n (fun k => n ≤ k) (.slice A9 S.safe.length cp) S.safe) ∧ Aside0 (Kd.R k65 65 w' n (fun k => n ≤ k) (.slice B9 S.afl.length dp) S.afl) ∧ Aside0 (IsLast w' m9 (lastOf (S.afl.take i))) ∧ Aside0 (Below w.heap.size w w'))
    case atStart => exact ⟨0, rfl, ⟨by omega⟩, Q1, Q6, Q7, Q8, hbc⟩
    case round =>
      clear Q1 Q6 Q7 Q8 hbc x0 x1 x2 x3 x4 x5
      obtain ⟨i, rfl, HI, Q1, Q6, Q7, Q8, HB⟩ := hrel
      obtain ⟨x0, x1, x2, x3, x4, x5⟩ := cell62 Q1.out
      cases gk with
      | zero =>
        have hi : i = S.afl.length := by have := HI.out; omega
        have hi1 : decide ((i : Int) < (S.afl.length : Int)) = false := decide_eq_false (by omega)
        have hi1b : decide (i < S.afl.length) = false := decide_eq_false (by omega)
        have HI2 := Aside0.mk hi
        clear hi
        go_wp2
        go_ret
        have e := HI2.out
        subst e
        have hq8 := Q8.out
        rw [List.take_length] at hq8
        have en := HN.out
        subst en
        have eq' := EQ.out
        exact ⟨q, rfl, ⟨_, m9, _, Q1.out, Nat.le_of_eq eq'.symm, Nat.le_of_eq eq'.symm, Q4.out, Q4.out, Q6.out, Q7.out, hq8⟩, HB.out⟩
      | succ k1 =>
        have hi : i < S.afl.length := by have := HI.out; omega
        have hi1 : decide ((i : Int) < (S.afl.length : Int)) = true := decide_eq_true (by omega)
        have hi1b : decide (i < S.afl.length) = true := decide_eq_true hi
        have hi1c : (i < S.afl.length) = True := eq_true hi
        have hi0 : (0 : Int) ≤ (i : Int) := by omega
        have hi2 : (i : Int) < (S.afl.length : Int) := by omega
        obtain ⟨ad, e0, y0, y1⟩ := at_T65 (Kd.R_reads' Q7.out).2.2 (i : Int) hi0 hi2
        have hp := W8.out (rd_T65 S.afl i) (by unfold rd_T65; rw [Int.toNat_natCast, List.getD, List.getElem?_eq_getElem hi]; exact List.getElem_mem hi)
        rw [Int.toNat_natCast] at y0 y1
        generalize hpe : rd_T65 S.afl (i : Int) = pp at *
        have HPE := Aside0.mk hpe
        have HII := Aside0.mk hi
        have WP := Aside0.mk hp
        clear hpe hp
        cases e0
        have lm := Q8.out.lt
        have lq := blk_lt Q1.out
        go_wp2_with (first
          | (at_mapUpdate
             go_must (refine wpList_mapUpdate_last _ rfl _ _ _ 59 rfl 3 9 Try.underlying59 Try.underlying3 m9 (lastOf (S.afl.take i)) pp.f0 pp.f1 rfl rfl rfl (Q8.out.at (Below.heap_alloc _ _ m9 Q8.out.lt)) WP.out ?_)
             intro w3 hl3 hg3
             have E4 := Aside0.mk hl3
             have E5 := Aside0.mk hg3
             clear hl3 hg3))
        go_roundg k1
        case measure => omega
        case rel =>
          have KA := (Below.heap_alloc wr (Obj.cells #[Value.int IntKind.i64 pp.f0, Value.string pp.f1] 65) q (blk_lt Q1.out)).trans Q1.out
          have SA := Kd.R_alloc Q6.out (Obj.cells #[Value.int IntKind.i64 pp.f0, Value.string pp.f1] 65)
          have RA := Kd.R_alloc Q7.out (Obj.cells #[Value.int IntKind.i64 pp.f0, Value.string pp.f1] 65)
          have LA := Q8.out.at (Below.heap_alloc wr (Obj.cells #[Value.int IntKind.i64 pp.f0, Value.string pp.f1] 65) m9 Q8.out.lt)
          have n1 : some q ≠ some m9 := fun e => last_ne Q8.out Q1.out (by injection e with e; exact e.symm)
          have n6 := own_map SA LA
          have n7 := own_map RA LA
          refine ⟨i + 1, ?_, ⟨by have := HI.out; omega⟩, ⟨(E5.out.block q (blk_lt KA) n1).trans KA⟩, ⟨Kd.R_grown2 SA rfl E5.out n6⟩, ⟨Kd.R_grown2 RA rfl E5.out n7⟩, ⟨?_⟩, ⟨below_grown (below_alloc HB.out _) E5.out (fun k hk => by injection hk with hk; subst hk; have := HN.out; have := Q4.out; omega) (Nat.le_trans HB.out.size (by simp))⟩⟩
          · first | rfl | (simp; done) | (rw [Value.int.injEq]; refine ⟨rfl, ?_⟩; have h1 := HI.out; have h2 := HL.out; first | (rw [IntKind.wrap_i64]; omega) | (unfold wrap64; omega))
          · have e : S.afl.take (i + 1) = S.afl.take i ++ [pp] := by
              rw [List.take_succ_eq_append_getElem HII.out, ← HPE.out]
              unfold rd_T65
              rw [Int.toNat_natCast, List.getD, List.getElem?_eq_getElem HII.out]; rfl
            rw [e, lastOf_snoc]
            exact E4.out
end Go.Proofs.Ytcmldpacgbhfmaa.V
