/- The document's own platter: Fail. -/
import Derived.Test.YtcmldpacgbhfmaaE1
namespace Go.Proofs.Ytcmldpacgbhfmaa.V
open Go.RowKit Go.Proofs.YtcmldpacgbhfmaaW.PrintWords Go.Proofs.YtcmldpacgbhfmaaW.PrintLast Go.Proofs.YtcmldpacgbhfmaaW.PrintMore
set_option linter.unusedVariables false
set_option linter.unusedSimpArgs false

/-- how much of the i-th store came -/
def cutAt (cl : List Int) (i : Nat) : Int := if i < cl.length then min (max (rd cl (i : Int)) 0) 128 else 0
def failR (S : RS) (cl : List Int) : Nat → List ByteArray × Int
  | 0 => (S.last, 0)
  | i + 1 => ((failR S cl i).1.set (rd_T65 S.float i).f0.toNat ((rd_T65 S.float i).f1.extract 0 (cutAt cl i).toNat ++ (rdOf ByteArray.empty (failR S cl i).1 (rd_T65 S.float i).f0).extract (cutAt cl i).toNat (rdOf ByteArray.empty (failR S cl i).1 (rd_T65 S.float i).f0).size), if 0 < cutAt cl i then (failR S cl i).2 + 1 else (failR S cl i).2)
theorem failR_length (S : RS) (cl : List Int) (i : Nat) : (failR S cl i).1.length = S.last.length := by
  induction i with
  | zero => rfl
  | succ i ih => rw [failR, List.length_set, ih]
theorem failR_count (S : RS) (cl : List Int) (i : Nat) : 0 ≤ (failR S cl i).2 ∧ (failR S cl i).2 ≤ i := by
  induction i with
  | zero => exact ⟨Int.le_refl _, Int.le_refl _⟩
  | succ i ih => rw [failR]; dsimp only; split <;> omega
def pagesR (S : RS) : Prop := (∀ b ∈ S.last, b.size = 128) ∧ ∀ p ∈ S.float, (0 ≤ p.f0 ∧ p.f0 < S.last.length) ∧ p.f1.size = 128
theorem cutAt_range (cl : List Int) (i : Nat) : 0 ≤ cutAt cl i ∧ cutAt cl i ≤ 128 := by
  unfold cutAt
  split <;> omega
theorem failR_size {S : RS} (h : pagesR S) (cl : List Int) (i : Nat) (hi : i ≤ S.float.length) : ∀ b ∈ (failR S cl i).1, b.size = 128 := by
  induction i with
  | zero => exact h.1
  | succ i ih =>
    have ih := ih (by omega)
    rw [failR]
    intro b hb
    rcases List.mem_or_eq_of_mem_set hb with hb | rfl
    · exact ih b hb
    · have hp := h.2 _ (rd65_mem (l := S.float) (i := i) (by omega))
      have ho := ih _ (rdOf_mem (l := (failR S cl i).1) hp.1.1 (by rw [failR_length]; exact hp.1.2))
      have hc := cutAt_range cl i
      rw [ByteArray.size_append, ByteArray.size_extract, ByteArray.size_extract, hp.2, ho]
      omega
set_option maxHeartbeats 8000000 in
set_option maxRecDepth 100000 in
theorem rfail_any {base : Nat} {F : Nat → Prop} {w : World} {g : Nat} {S : RS} (h : IsR base F w g S) (hw : pagesR S) (hl : S.float.length ≤ 1000000) (C : Option Addr) (cc : Nat) (cl : List Int) (hC : ∀ W', Kept w W' F → (Kd.int .i64).C W' C cl.length cl) :
    Calls Try.prog 29 #[.pointer (some ⟨g, 0, none⟩), .slice C cl.length cc] w fun e w' => e = .returned (.int .i64 (failR S cl S.float.length).2) ∧ IsR base F w' g { last := (failR S cl S.float.length).1, float := [], dead := false, after := -1 } ∧ Kept w w' F ∧ (base ≤ w.heap.size → Below base w w') := by
  have HL := Aside0.mk hl
  have HC := Aside0.mk hC
  obtain ⟨A, c, B, d, h1, h2, h3, h6, h7⟩ := h.cells
  obtain ⟨c0, c1, c2, c3⟩ := cell55 h1
  have G1 := Aside0.mk h1
  have G2 := Aside0.mk h2
  have G3 := Aside0.mk h3
  have G6 := Aside0.mk h6
  have G7 := Aside0.mk h7
  have W8 := Aside0.mk hw
  clear h h1 h2 h3 h6 h7 hw hl hC
  go_enter Try.func29, Try.ntmps29
  go_wp2
  clear c0 c1 c2 c3
  go_loopg [5, 6] S.float.length (fun kq v5 v6 w' => ∃ i : Nat, v6 = .int .i64 i ∧ v5 = .int .i64 (failR S cl i).2 ∧ Aside0 (i + kq = S.float.length) ∧ Aside0 (w'.heap[g]? = some (.cells #[.slice A S.last.length c, .slice B S.float.length d, .bool S.dead, .int .i64 S.after] 55 (0, 0))) ∧ Aside0 (Kd.R Kd.string 9 w' base F (.slice A S.last.length c) (failR S cl i).1) ∧ Aside0 (Kd.R k65 70 w' base F (.slice B S.float.length d) S.float) ∧ Aside0 (Kept w w' F) ∧ Aside0 (base ≤ w.heap.size → Below base w w'))
  case atStart => exact ⟨0, rfl, rfl, ⟨by omega⟩, G1, G6, G7, ⟨Kept.refl _ _⟩, ⟨fun hle => Below.refl _ _⟩⟩
  case round =>
    obtain ⟨i, rfl, rfl, HI, Q1, Q6, Q7, HK, HB⟩ := hrel
    obtain ⟨x0, x1, x2, x3⟩ := cell55 Q1.out
    cases gk with
    | zero =>
      have hi : i = S.float.length := by have := HI.out; omega
      have hi1 : decide ((i : Int) < (S.float.length : Int)) = false := decide_eq_false (by omega)
      have hi1b : decide (i < S.float.length) = false := decide_eq_false (by omega)
      have HI2 := Aside0.mk hi
      have xf1 := blk_frozen Q1.out 1
      have xf2 := blk_frozen Q1.out 2
      have xf3 := blk_frozen Q1.out 3
      clear hi
      have IP : IsR base F wr g { S with last := (failR S cl i).1 } := ⟨_, _, Q1.out, G2.out, G3.out, by simpa [failR_length] using Q6.out, Q7.out⟩
      have IP2 := Aside0.mk IP
      clear IP
      go_wp2
      go_ret
      have e := HI2.out
      subst e
      exact ⟨rfl, ((IP2.out.set1).set2 false).set3 (-1), ((HK.out.setCell (.inl G3.out) _).setCell (.inl G3.out) _).setCell (.inl G3.out) _, fun hle => below_setG (below_setG (below_setG (HB.out hle) G2.out _ _) G2.out _ _) G2.out _ _⟩
    | succ k1 =>
      have hi : i < S.float.length := by have := HI.out; omega
      have hi1 : decide ((i : Int) < (S.float.length : Int)) = true := decide_eq_true (by omega)
      have hi1b : decide (i < S.float.length) = true := decide_eq_true hi
      have hi1c : (i < S.float.length) = True := eq_true hi
      have hi0 : (0 : Int) ≤ (i : Int) := by omega
      have hi2 : (i : Int) < (S.float.length : Int) := by omega
      obtain ⟨ad, e0, y0, y1⟩ := at_T65 (Kd.R_reads' Q7.out).2.2 (i : Int) hi0 hi2
      have hp := W8.out.2 (rd_T65 S.float i) (rd65_mem hi)
      rw [Int.toNat_natCast] at y0 y1
      generalize hpe : rd_T65 S.float (i : Int) = pp at *
      have HPE := Aside0.mk hpe
      clear hpe
      cases e0
      have P1 := Aside0.mk hp.1.1
      have P2 := Aside0.mk hp.1.2
      have P3 := Aside0.mk hp.2
      have CR := Aside0.mk (cutAt_range cl i)
      obtain ⟨cut, hcut⟩ : ∃ cut, cut = cutAt cl i := ⟨_, rfl⟩
      have HCUT := Aside0.mk hcut
      have NC := Aside0.mk (failR_count S cl i)
      obtain ⟨cnt, hcnt⟩ : ∃ cnt, cnt = (failR S cl i).2 := ⟨_, rfl⟩
      have HCNT := Aside0.mk hcnt
      rw [← hcnt]
      clear hp hcnt
      by_cases hc : i < cl.length
      · have hc1 : decide ((i : Int) < (cl.length : Int)) = true := decide_eq_true (by omega)
        have hc1b : decide (i < cl.length) = true := decide_eq_true hc
        have hc1c : (i < cl.length) = True := eq_true hc
        obtain ⟨cb, e7, y7⟩ := Kd.at_int (HC.out wr HK.out) (i : Int) hi0 (by omega)
        rw [Int.toNat_natCast] at y7
        cases e7
        have hct : min (max (rd cl (i : Int)) 0) 128 = cut := by rw [hcut, cutAt, if_pos hc]
        clear hcut hc
        by_cases hz : 0 < cut
        · have hz1 := decide_eq_true hz
          have HZ := Aside0.mk hz
          clear hz
          go_upto_region 11 with (fail)
          clear hct y7
          have KA := (Below.heap_alloc wr (Obj.cells #[Value.int IntKind.i64 pp.f0, Value.string pp.f1] 70) g (blk_lt Q1.out)).trans Q1.out
          have KB : (wr.alloc (Obj.cells #[Value.int IntKind.i64 pp.f0, Value.string pp.f1] 70)).heap[wr.heap.size]? = some (.cells #[Value.int IntKind.i64 pp.f0, Value.string pp.f1] 70 (0, 0)) := (MapKept.heap_alloc wr _).1
          have SA := Aside0.mk (Kd.R_alloc Q6.out (Obj.cells #[Value.int IntKind.i64 pp.f0, Value.string pp.f1] 70))
          have RA := Aside0.mk (Kd.R_alloc Q7.out (Obj.cells #[Value.int IntKind.i64 pp.f0, Value.string pp.f1] 70))
          have HKA := Aside0.mk (HK.out.alloc (Obj.cells #[Value.int IntKind.i64 pp.f0, Value.string pp.f1] 70))
          have HBA := Aside0.mk (fun (hle : base ≤ w.heap.size) => (HB.out hle).trans ((below_alloc (Below.refl wr.heap.size wr) (Obj.cells #[Value.int IntKind.i64 pp.f0, Value.string pp.f1] 70)).mono (Nat.le_trans hle HK.out.1)))
          clear x0 x1 x2 x3 y0 y1 Q1 Q6 Q7 HK HB
          generalize wr.alloc (Obj.cells #[Value.int IntKind.i64 pp.f0, Value.string pp.f1] 70) = wA at *
          generalize wr.heap.size = yy at *
          have JA := Aside0.mk KA
          obtain ⟨gs, rfl⟩ : ∃ gs, A = some ⟨gs, 0, none⟩ := by
            obtain ⟨b8, e8, _⟩ := Kd.at_string (Kd.R_reads' SA.out).2.2 pp.f0 P1.out (by rw [failR_length]; exact P2.out)
            subst e8
            obtain ⟨gs, e⟩ := Kd.R_head SA.out
            exact ⟨gs, by rw [e]⟩
          obtain ⟨b8, e8, y8⟩ := Kd.at_string (Kd.R_reads' SA.out).2.2 pp.f0 P1.out (by rw [failR_length]; exact P2.out)
          injection e8 with e8
          subst e8
          have hos : (rdOf ByteArray.empty (failR S cl i).1 pp.f0).size = 128 := failR_size W8.out cl i (by omega) _ (rdOf_mem P1.out (by rw [failR_length]; exact P2.out))
          have HOS := Aside0.mk hos
          obtain ⟨old, hold⟩ : ∃ old, old = rdOf ByteArray.empty (failR S cl i).1 pp.f0 := ⟨_, rfl⟩
          rw [← hold] at y8 hos
          have HOLD := Aside0.mk hold
          clear hold
          obtain ⟨x0, x1, x2, x3⟩ := cell55 KA
          have y0 : wA.cell? ⟨yy, 0, none⟩ = some (.int .i64 pp.f0) := (blk_cell KB 0).trans rfl
          have y1 : wA.cell? ⟨yy, 1, none⟩ = some (.string pp.f1) := (blk_cell KB 1).trans rfl
          have hp1b : decide (0 ≤ pp.f0) = true := decide_eq_true P1.out
          have hp2b : decide (pp.f0 < (S.last.length : Int)) = true := decide_eq_true P2.out
          have Y8 := Aside0.mk y8
          have hadd : ∀ k : Nat, (⟨gs, 0, none⟩ : Addr).add k = ⟨gs, k, none⟩ := by intro k; simp [Addr.add]; intro hk; exact hk.symm
          have y8b : wA.cell? ⟨gs, pp.f0.toNat, none⟩ = some (.string old) := by rw [hadd] at y8; exact y8
          clear hadd
          have hp3 := P3.out
          have hcr := CR.out
          rw [← HCUT.out] at hcr
          have m1 : (0 ≤ cut) = True := eq_true (by omega)
          have m2 : (cut ≤ (pp.f1.size : Int)) = True := eq_true (by omega)
          have m3 : (cut ≤ (old.size : Int)) = True := eq_true (by omega)
          have q1 : (0 : Int) ≤ cut := by omega
          have q2 : cut ≤ (pp.f1.size : Int) := by omega
          have q3 : cut ≤ (old.size : Int) := by omega
          have q4 : decide ((0 : Int) ≤ cut) = true := decide_eq_true q1
          have q5 : decide (cut ≤ (pp.f1.size : Int)) = true := decide_eq_true q2
          have q6 : decide (cut ≤ (old.size : Int)) = true := decide_eq_true q3
          have q7 : (pp.f1.extract 0 cut.toNat).size + (old.extract cut.toNat old.size).size ≤ 9223372036854775807 := by
            rw [ByteArray.size_extract, ByteArray.size_extract]; omega
          have hrun57 : ∀ w, (binOp BinOp.add 9 (.string (pp.f1.extract 0 cut.toNat)) (.string (old.extract cut.toNat old.size))).run Try.prog w = .ok (.string (pp.f1.extract 0 cut.toNat ++ old.extract cut.toNat old.size)) w := fun w => add9 _ _ w q7
          have q15 : (9223372036854775807 < old.size) = False := eq_false (by omega)
          have Q7 := Aside0.mk q7
          clear q7
          have q10 : (cut ≤ 128) = True := eq_true (by omega)
          clear hp3 hos hcr
          have hp1 := P1.out
          have hp2 := P2.out
          go_still_tail 22, (by kernel_rfl)
          change wpList _ _ _ _ _ wA.drew
          refine Kd.R_store Kd.string (w0 := wA.drew) base rfl rfl 9 (.tmp 60) (.tmp 59) rfl 9 (g := gs) (n := S.last.length) (cap := c) (o' := pp.f0.toNat) pp.f0 0 (failR S cl i).1 (pp.f1.extract 0 cut.toNat ++ old.extract cut.toNat old.size) (.string (pp.f1.extract 0 cut.toNat ++ old.extract cut.toNat old.size)) [.string (pp.f1.extract 0 cut.toNat ++ old.extract cut.toNat old.size)] [.string old] F (fun _ => False) rfl ?hoff rfl rfl (by kernel_rfl) (by intro q hq; simp at hq; subst hq; rfl) (Kd.R_drew SA.out) P1.out P2.out rfl ?hcc (Nat.le_refl 1) rfl (fun _ hk => hk.elim) (Below.refl base _) ?_
          case hoff => show pp.f0.toNat = pp.f0.toNat * 1 + 0; omega
          case hcc =>
            intro j u hj
            cases j with
            | zero =>
              have := Y8.out
              simp only [List.getElem?_cons_zero, Option.some.injEq] at hj
              subst hj
              have e : (⟨gs, pp.f0.toNat * Kd.string.sz + 0, none⟩ : Addr) = (⟨gs, 0, none⟩ : Addr).add pp.f0.toNat := by
                rw [show Kd.string.sz = 1 from rfl]
                simp [Addr.add]
              rw [e]; exact this
            | succ j => simp at hj
          intro w3 ho hb hg
          have E1 := Aside0.mk ho
          have E2 := Aside0.mk hb
          have E3 := Aside0.mk hg
          clear ho hb hg x0 x1 x2 x3 y0 y1 y8 y8b KA KB
          go_wp2
          go_roundg k1
          case measure => omega
          case rel =>
            have n1 : some g ≠ some gs := own_blk SA.out JA.out (by decide)
            have n2 : ∀ k, some gs = some k → some k ≠ (Value.slice (some ad) S.float.length d).ownBlock := own_types SA.out RA.out (by decide)
            refine ⟨i + 1, ?_, ?_, ⟨by have := HI.out; omega⟩, ⟨(E3.out.block g (blk_lt (show wA.drew.heap[g]? = _ from JA.out)) n1).trans JA.out⟩, ⟨?_⟩, ⟨Kd.R_grown2 (Kd.R_drew RA.out) rfl E3.out n2⟩, ⟨kept_grown HKA.out.drew E3.out (fun k hk => by injection hk with hk; subst hk; exact .inl (SA.out.1 gs rfl))⟩, ⟨fun hle => ((HBA.out hle).trans (below_drew (Below.refl base wA))).trans E2.out⟩⟩
            · first | rfl | (simp; done) | (rw [Value.int.injEq]; refine ⟨rfl, ?_⟩; have h1 := HI.out; have h2 := HL.out; first | (rw [IntKind.wrap_i64]; omega) | (unfold wrap64; omega))
            · rw [failR, ← HCUT.out, ← HCNT.out]; dsimp only; rw [if_pos HZ.out]; first | rfl | (rw [Value.int.injEq]; refine ⟨rfl, ?_⟩; have := NC.out; have h2 := HL.out; have := HCNT.out; have := HI.out; first | (rw [IntKind.wrap_i64]; omega) | (unfold wrap64; omega))
            · rw [failR, HPE.out, ← HCUT.out, ← HOLD.out]; exact E1.out
        · have hz1 := decide_eq_false hz
          have HZ := Aside0.mk hz
          clear hz
          go_upto_region 11 with (fail)
          clear hct y7
          have KA := (Below.heap_alloc wr (Obj.cells #[Value.int IntKind.i64 pp.f0, Value.string pp.f1] 70) g (blk_lt Q1.out)).trans Q1.out
          have KB : (wr.alloc (Obj.cells #[Value.int IntKind.i64 pp.f0, Value.string pp.f1] 70)).heap[wr.heap.size]? = some (.cells #[Value.int IntKind.i64 pp.f0, Value.string pp.f1] 70 (0, 0)) := (MapKept.heap_alloc wr _).1
          have SA := Aside0.mk (Kd.R_alloc Q6.out (Obj.cells #[Value.int IntKind.i64 pp.f0, Value.string pp.f1] 70))
          have RA := Aside0.mk (Kd.R_alloc Q7.out (Obj.cells #[Value.int IntKind.i64 pp.f0, Value.string pp.f1] 70))
          have HKA := Aside0.mk (HK.out.alloc (Obj.cells #[Value.int IntKind.i64 pp.f0, Value.string pp.f1] 70))
          have HBA := Aside0.mk (fun (hle : base ≤ w.heap.size) => (HB.out hle).trans ((below_alloc (Below.refl wr.heap.size wr) (Obj.cells #[Value.int IntKind.i64 pp.f0, Value.string pp.f1] 70)).mono (Nat.le_trans hle HK.out.1)))
          clear x0 x1 x2 x3 y0 y1 Q1 Q6 Q7 HK HB
          generalize wr.alloc (Obj.cells #[Value.int IntKind.i64 pp.f0, Value.string pp.f1] 70) = wA at *
          generalize wr.heap.size = yy at *
          have JA := Aside0.mk KA
          obtain ⟨gs, rfl⟩ : ∃ gs, A = some ⟨gs, 0, none⟩ := by
            obtain ⟨b8, e8, _⟩ := Kd.at_string (Kd.R_reads' SA.out).2.2 pp.f0 P1.out (by rw [failR_length]; exact P2.out)
            subst e8
            obtain ⟨gs, e⟩ := Kd.R_head SA.out
            exact ⟨gs, by rw [e]⟩
          obtain ⟨b8, e8, y8⟩ := Kd.at_string (Kd.R_reads' SA.out).2.2 pp.f0 P1.out (by rw [failR_length]; exact P2.out)
          injection e8 with e8
          subst e8
          have hos : (rdOf ByteArray.empty (failR S cl i).1 pp.f0).size = 128 := failR_size W8.out cl i (by omega) _ (rdOf_mem P1.out (by rw [failR_length]; exact P2.out))
          have HOS := Aside0.mk hos
          obtain ⟨old, hold⟩ : ∃ old, old = rdOf ByteArray.empty (failR S cl i).1 pp.f0 := ⟨_, rfl⟩
          rw [← hold] at y8 hos
          have HOLD := Aside0.mk hold
          clear hold
          obtain ⟨x0, x1, x2, x3⟩ := cell55 KA
          have y0 : wA.cell? ⟨yy, 0, none⟩ = some (.int .i64 pp.f0) := (blk_cell KB 0).trans rfl
          have y1 : wA.cell? ⟨yy, 1, none⟩ = some (.string pp.f1) := (blk_cell KB 1).trans rfl
          have hp1b : decide (0 ≤ pp.f0) = true := decide_eq_true P1.out
          have hp2b : decide (pp.f0 < (S.last.length : Int)) = true := decide_eq_true P2.out
          have Y8 := Aside0.mk y8
          have hadd : ∀ k : Nat, (⟨gs, 0, none⟩ : Addr).add k = ⟨gs, k, none⟩ := by intro k; simp [Addr.add]; intro hk; exact hk.symm
          have y8b : wA.cell? ⟨gs, pp.f0.toNat, none⟩ = some (.string old) := by rw [hadd] at y8; exact y8
          clear hadd
          have hp3 := P3.out
          have hcr := CR.out
          rw [← HCUT.out] at hcr
          have m1 : (0 ≤ cut) = True := eq_true (by omega)
          have m2 : (cut ≤ (pp.f1.size : Int)) = True := eq_true (by omega)
          have m3 : (cut ≤ (old.size : Int)) = True := eq_true (by omega)
          have q1 : (0 : Int) ≤ cut := by omega
          have q2 : cut ≤ (pp.f1.size : Int) := by omega
          have q3 : cut ≤ (old.size : Int) := by omega
          have q4 : decide ((0 : Int) ≤ cut) = true := decide_eq_true q1
          have q5 : decide (cut ≤ (pp.f1.size : Int)) = true := decide_eq_true q2
          have q6 : decide (cut ≤ (old.size : Int)) = true := decide_eq_true q3
          have q7 : (pp.f1.extract 0 cut.toNat).size + (old.extract cut.toNat old.size).size ≤ 9223372036854775807 := by
            rw [ByteArray.size_extract, ByteArray.size_extract]; omega
          have hrun57 : ∀ w, (binOp BinOp.add 9 (.string (pp.f1.extract 0 cut.toNat)) (.string (old.extract cut.toNat old.size))).run Try.prog w = .ok (.string (pp.f1.extract 0 cut.toNat ++ old.extract cut.toNat old.size)) w := fun w => add9 _ _ w q7
          have q15 : (9223372036854775807 < old.size) = False := eq_false (by omega)
          have Q7 := Aside0.mk q7
          clear q7
          have q10 : (cut ≤ 128) = True := eq_true (by omega)
          clear hp3 hos hcr
          have hp1 := P1.out
          have hp2 := P2.out
          go_still_tail 22, (by kernel_rfl)
          change wpList _ _ _ _ _ wA.drew
          refine Kd.R_store Kd.string (w0 := wA.drew) base rfl rfl 9 (.tmp 60) (.tmp 59) rfl 9 (g := gs) (n := S.last.length) (cap := c) (o' := pp.f0.toNat) pp.f0 0 (failR S cl i).1 (pp.f1.extract 0 cut.toNat ++ old.extract cut.toNat old.size) (.string (pp.f1.extract 0 cut.toNat ++ old.extract cut.toNat old.size)) [.string (pp.f1.extract 0 cut.toNat ++ old.extract cut.toNat old.size)] [.string old] F (fun _ => False) rfl ?hoff rfl rfl (by kernel_rfl) (by intro q hq; simp at hq; subst hq; rfl) (Kd.R_drew SA.out) P1.out P2.out rfl ?hcc (Nat.le_refl 1) rfl (fun _ hk => hk.elim) (Below.refl base _) ?_
          case hoff => show pp.f0.toNat = pp.f0.toNat * 1 + 0; omega
          case hcc =>
            intro j u hj
            cases j with
            | zero =>
              have := Y8.out
              simp only [List.getElem?_cons_zero, Option.some.injEq] at hj
              subst hj
              have e : (⟨gs, pp.f0.toNat * Kd.string.sz + 0, none⟩ : Addr) = (⟨gs, 0, none⟩ : Addr).add pp.f0.toNat := by
                rw [show Kd.string.sz = 1 from rfl]
                simp [Addr.add]
              rw [e]; exact this
            | succ j => simp at hj
          intro w3 ho hb hg
          have E1 := Aside0.mk ho
          have E2 := Aside0.mk hb
          have E3 := Aside0.mk hg
          clear ho hb hg x0 x1 x2 x3 y0 y1 y8 y8b KA KB
          go_wp2
          go_roundg k1
          case measure => omega
          case rel =>
            have n1 : some g ≠ some gs := own_blk SA.out JA.out (by decide)
            have n2 : ∀ k, some gs = some k → some k ≠ (Value.slice (some ad) S.float.length d).ownBlock := own_types SA.out RA.out (by decide)
            refine ⟨i + 1, ?_, ?_, ⟨by have := HI.out; omega⟩, ⟨(E3.out.block g (blk_lt (show wA.drew.heap[g]? = _ from JA.out)) n1).trans JA.out⟩, ⟨?_⟩, ⟨Kd.R_grown2 (Kd.R_drew RA.out) rfl E3.out n2⟩, ⟨kept_grown HKA.out.drew E3.out (fun k hk => by injection hk with hk; subst hk; exact .inl (SA.out.1 gs rfl))⟩, ⟨fun hle => ((HBA.out hle).trans (below_drew (Below.refl base wA))).trans E2.out⟩⟩
            · first | rfl | (simp; done) | (rw [Value.int.injEq]; refine ⟨rfl, ?_⟩; have h1 := HI.out; have h2 := HL.out; first | (rw [IntKind.wrap_i64]; omega) | (unfold wrap64; omega))
            · rw [failR, ← HCUT.out, ← HCNT.out]; dsimp only; rw [if_neg (by have := HZ.out; omega)]
            · rw [failR, HPE.out, ← HCUT.out, ← HOLD.out]; exact E1.out
      · have hc1 : decide ((i : Int) < (cl.length : Int)) = false := decide_eq_false (by omega)
        have hc1b : decide (i < cl.length) = false := decide_eq_false hc
        have hct : cut = 0 := by rw [hcut, cutAt, if_neg hc]
        clear hc hcut
        subst hct
        go_upto_region 11 with (fail)
        have KA := (Below.heap_alloc wr (Obj.cells #[Value.int IntKind.i64 pp.f0, Value.string pp.f1] 70) g (blk_lt Q1.out)).trans Q1.out
        have KB : (wr.alloc (Obj.cells #[Value.int IntKind.i64 pp.f0, Value.string pp.f1] 70)).heap[wr.heap.size]? = some (.cells #[Value.int IntKind.i64 pp.f0, Value.string pp.f1] 70 (0, 0)) := (MapKept.heap_alloc wr _).1
        have SA := Aside0.mk (Kd.R_alloc Q6.out (Obj.cells #[Value.int IntKind.i64 pp.f0, Value.string pp.f1] 70))
        have RA := Aside0.mk (Kd.R_alloc Q7.out (Obj.cells #[Value.int IntKind.i64 pp.f0, Value.string pp.f1] 70))
        have HKA := Aside0.mk (HK.out.alloc (Obj.cells #[Value.int IntKind.i64 pp.f0, Value.string pp.f1] 70))
        have HBA := Aside0.mk (fun (hle : base ≤ w.heap.size) => (HB.out hle).trans ((below_alloc (Below.refl wr.heap.size wr) (Obj.cells #[Value.int IntKind.i64 pp.f0, Value.string pp.f1] 70)).mono (Nat.le_trans hle HK.out.1)))
        clear x0 x1 x2 x3 y0 y1 Q1 Q6 Q7 HK HB
        generalize wr.alloc (Obj.cells #[Value.int IntKind.i64 pp.f0, Value.string pp.f1] 70) = wA at *
        generalize wr.heap.size = yy at *
        have JA := Aside0.mk KA
        obtain ⟨gs, rfl⟩ : ∃ gs, A = some ⟨gs, 0, none⟩ := by
          obtain ⟨b8, e8, _⟩ := Kd.at_string (Kd.R_reads' SA.out).2.2 pp.f0 P1.out (by rw [failR_length]; exact P2.out)
          subst e8
          obtain ⟨gs, e⟩ := Kd.R_head SA.out
          exact ⟨gs, by rw [e]⟩
        obtain ⟨b8, e8, y8⟩ := Kd.at_string (Kd.R_reads' SA.out).2.2 pp.f0 P1.out (by rw [failR_length]; exact P2.out)
        injection e8 with e8
        subst e8
        have hos : (rdOf ByteArray.empty (failR S cl i).1 pp.f0).size = 128 := failR_size W8.out cl i (by omega) _ (rdOf_mem P1.out (by rw [failR_length]; exact P2.out))
        have HOS := Aside0.mk hos
        obtain ⟨old, hold⟩ : ∃ old, old = rdOf ByteArray.empty (failR S cl i).1 pp.f0 := ⟨_, rfl⟩
        rw [← hold] at y8 hos
        have HOLD := Aside0.mk hold
        clear hold
        obtain ⟨x0, x1, x2, x3⟩ := cell55 KA
        have y0 : wA.cell? ⟨yy, 0, none⟩ = some (.int .i64 pp.f0) := (blk_cell KB 0).trans rfl
        have y1 : wA.cell? ⟨yy, 1, none⟩ = some (.string pp.f1) := (blk_cell KB 1).trans rfl
        have hp1b : decide (0 ≤ pp.f0) = true := decide_eq_true P1.out
        have hp2b : decide (pp.f0 < (S.last.length : Int)) = true := decide_eq_true P2.out
        have Y8 := Aside0.mk y8
        have hadd : ∀ k : Nat, (⟨gs, 0, none⟩ : Addr).add k = ⟨gs, k, none⟩ := by intro k; simp [Addr.add]; intro hk; exact hk.symm
        have y8b : wA.cell? ⟨gs, pp.f0.toNat, none⟩ = some (.string old) := by rw [hadd] at y8; exact y8
        clear hadd
        have hp3 := P3.out
        have hcr := CR.out
        rw [← HCUT.out] at hcr
        have m1 : (0 ≤ (0 : Int)) = True := eq_true (by omega)
        have m2 : ((0 : Int) ≤ (pp.f1.size : Int)) = True := eq_true (by omega)
        have m3 : ((0 : Int) ≤ (old.size : Int)) = True := eq_true (by omega)
        have q1 : (0 : Int) ≤ (0 : Int) := by omega
        have q2 : (0 : Int) ≤ (pp.f1.size : Int) := by omega
        have q3 : (0 : Int) ≤ (old.size : Int) := by omega
        have q4 : decide ((0 : Int) ≤ (0 : Int)) = true := decide_eq_true q1
        have q5 : decide ((0 : Int) ≤ (pp.f1.size : Int)) = true := decide_eq_true q2
        have q6 : decide ((0 : Int) ≤ (old.size : Int)) = true := decide_eq_true q3
        have q7 : (pp.f1.extract 0 0).size + (old.extract 0 old.size).size ≤ 9223372036854775807 := by
          rw [ByteArray.size_extract, ByteArray.size_extract]; omega
        have hrun57 : ∀ w, (binOp BinOp.add 9 (.string (pp.f1.extract 0 0)) (.string (old.extract 0 old.size))).run Try.prog w = .ok (.string (pp.f1.extract 0 0 ++ old.extract 0 old.size)) w := fun w => add9 _ _ w q7
        have q15 : (9223372036854775807 < old.size) = False := eq_false (by omega)
        have Q7 := Aside0.mk q7
        clear q7
        have q10 : ((0 : Int) ≤ 128) = True := eq_true (by omega)
        clear hp3 hos hcr
        have hp1 := P1.out
        have hp2 := P2.out
        go_still_tail 22, (by kernel_rfl)
        change wpList _ _ _ _ _ wA.drew
        refine Kd.R_store Kd.string (w0 := wA.drew) base rfl rfl 9 (.tmp 60) (.tmp 59) rfl 9 (g := gs) (n := S.last.length) (cap := c) (o' := pp.f0.toNat) pp.f0 0 (failR S cl i).1 old (.string old) [.string old] [.string old] F (fun _ => False) rfl ?hoff rfl rfl (by kernel_rfl) (by intro q hq; simp at hq; subst hq; rfl) (Kd.R_drew SA.out) P1.out P2.out rfl ?hcc (Nat.le_refl 1) rfl (fun _ hk => hk.elim) (Below.refl base _) ?_
        case hoff => show pp.f0.toNat = pp.f0.toNat * 1 + 0; omega
        case hcc =>
          intro j u hj
          cases j with
          | zero =>
            have := Y8.out
            simp only [List.getElem?_cons_zero, Option.some.injEq] at hj
            subst hj
            have e : (⟨gs, pp.f0.toNat * Kd.string.sz + 0, none⟩ : Addr) = (⟨gs, 0, none⟩ : Addr).add pp.f0.toNat := by
              rw [show Kd.string.sz = 1 from rfl]
              simp [Addr.add]
            rw [e]; exact this
          | succ j => simp at hj
        intro w3 ho hb hg
        have E1 := Aside0.mk ho
        have E2 := Aside0.mk hb
        have E3 := Aside0.mk hg
        clear ho hb hg x0 x1 x2 x3 y0 y1 y8 y8b KA KB
        go_wp2
        go_roundg k1
        case measure => omega
        case rel =>
          have n1 : some g ≠ some gs := own_blk SA.out JA.out (by decide)
          have n2 : ∀ k, some gs = some k → some k ≠ (Value.slice (some ad) S.float.length d).ownBlock := own_types SA.out RA.out (by decide)
          refine ⟨i + 1, ?_, ?_, ⟨by have := HI.out; omega⟩, ⟨(E3.out.block g (blk_lt (show wA.drew.heap[g]? = _ from JA.out)) n1).trans JA.out⟩, ⟨?_⟩, ⟨Kd.R_grown2 (Kd.R_drew RA.out) rfl E3.out n2⟩, ⟨kept_grown HKA.out.drew E3.out (fun k hk => by injection hk with hk; subst hk; exact .inl (SA.out.1 gs rfl))⟩, ⟨fun hle => ((HBA.out hle).trans (below_drew (Below.refl base wA))).trans E2.out⟩⟩
          · first | rfl | (simp; done) | (rw [Value.int.injEq]; refine ⟨rfl, ?_⟩; have h1 := HI.out; have h2 := HL.out; first | (rw [IntKind.wrap_i64]; omega) | (unfold wrap64; omega))
          · rw [failR, ← HCUT.out, ← HCNT.out]; dsimp only; rw [if_neg (by decide)]
          · rw [failR, HPE.out, ← HCUT.out, ← HOLD.out, show pp.f1.extract 0 (0 : Int).toNat ++ old.extract (0 : Int).toNat old.size = old by simp]; exact E1.out
end Go.Proofs.Ytcmldpacgbhfmaa.V
