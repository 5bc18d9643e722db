/- A platter: Fail. -/
import Derived.Test.YtcmldpacgbhfmaaP4
namespace Go.Proofs.Ytcmldpacgbhfmaa.V
open Go.RowKit Go.Proofs.YtcmldpacgbhfmaaW.PrintWords Go.Proofs.YtcmldpacgbhfmaaW.PrintLast Go.Proofs.YtcmldpacgbhfmaaW.PrintMore
set_option linter.unusedVariables false
set_option linter.unusedSimpArgs false

/-- the pages, and how many came, after the first i of what was afloat -/
def failed (S : PS) (cl : List Int) : Nat → List ByteArray × Int
  | 0 => (S.safe, 0)
  | i + 1 =>
    if i < cl.length ∧ 0 < rd cl (i : Int) then
      ((failed S cl i).1.set (rd_T65 S.afl i).f0.toNat ((rd_T65 S.afl i).f1.extract 0 (min (rd cl (i : Int)) 128).toNat ++ (rdOf ByteArray.empty (failed S cl i).1 (rd_T65 S.afl i).f0).extract (min (rd cl (i : Int)) 128).toNat (rdOf ByteArray.empty (failed S cl i).1 (rd_T65 S.afl i).f0).size), (failed S cl i).2 + 1)
    else failed S cl i
theorem failed_length (S : PS) (cl : List Int) (i : Nat) : (failed S cl i).1.length = S.safe.length := by
  induction i with
  | zero => rfl
  | succ i ih => unfold failed; split <;> simp [ih]
theorem failed_count (S : PS) (cl : List Int) (i : Nat) : 0 ≤ (failed S cl i).2 ∧ (failed S cl i).2 ≤ i := by
  induction i with
  | zero => exact ⟨Int.le_refl _, Int.le_refl _⟩
  | succ i ih => unfold failed; split <;> simp <;> omega
def pagesOk (S : PS) : Prop := (∀ b ∈ S.safe, b.size = 128) ∧ ∀ p ∈ S.afl, (0 ≤ p.f0 ∧ p.f0 < S.safe.length) ∧ p.f1.size = 128
theorem rdOf_mem {l : List ByteArray} {i : Int} (h0 : 0 ≤ i) (h1 : i < l.length) : rdOf ByteArray.empty l i ∈ l := by
  unfold rdOf
  rw [List.getD, List.getElem?_eq_getElem (by omega)]
  exact List.getElem_mem _
theorem rd65_mem {l : List S65} {i : Nat} (h : i < l.length) : rd_T65 l (i : Int) ∈ l := by
  unfold rd_T65
  rw [Int.toNat_natCast, List.getD, List.getElem?_eq_getElem h]
  exact List.getElem_mem h
theorem failed_size {S : PS} (h : pagesOk S) (cl : List Int) (i : Nat) (hi : i ≤ S.afl.length) : ∀ b ∈ (failed S cl i).1, b.size = 128 := by
  induction i with
  | zero => exact h.1
  | succ i ih =>
    have ih := ih (by omega)
    unfold failed
    split
    · rename_i hc
      intro b hb
      rcases List.mem_or_eq_of_mem_set hb with hb | rfl
      · exact ih b hb
      · have hp := h.2 _ (rd65_mem (show i < S.afl.length by omega))
        have hs := ih _ (rdOf_mem (l := (failed S cl i).1) hp.1.1 (by rw [failed_length]; exact hp.1.2))
        rw [ByteArray.size_append, ByteArray.size_extract, ByteArray.size_extract, hs, hp.2]
        omega
    · exact ih
theorem add9 (a b : ByteArray) (w : World) (h : a.size + b.size ≤ 9223372036854775807) : (binOp BinOp.add 9 (.string a) (.string b)).run Try.prog w = .ok (.string (a ++ b)) w := by
  have h2 : (9223372036854775807 < a.size + b.size) = False := eq_false (by omega)
  go_simp
set_option maxHeartbeats 8000000 in
set_option maxRecDepth 100000 in
theorem fail_any {base : Nat} {F : Nat → Prop} {w : World} {g : Nat} {S : PS} (h : IsP base F w g S) (hw : pagesOk S) (hl : S.afl.length ≤ 1000000) (C : Option Addr) (cc : Nat) (cl : List Int) (hC : ∀ W', Kept w W' F → (Kd.int .i64).C W' C cl.length cl) :
    Calls Try.prog 16 #[.pointer (some ⟨g, 0, none⟩), .slice C cl.length cc] w fun e w' => e = .returned (.int .i64 (failed S cl S.afl.length).2) ∧ IsP base F w' g { safe := (failed S cl S.afl.length).1, last := fun _ => none, afl := [], halts := false, after := 0, halted := false } ∧ Kept w w' F ∧ (base ≤ w.heap.size → Below base w w') := by
  have HP := Aside0.mk h
  have HL := Aside0.mk hl
  have HC := Aside0.mk hC
  clear hl hC
  obtain ⟨A, c, m, B, d, h1, h2, h3, h4, h5, h6, h7, h8⟩ := h.cells
  have G1 := Aside0.mk h1
  have G2 := Aside0.mk h2
  have G3 := Aside0.mk h3
  have G4 := Aside0.mk h4
  have G5 := Aside0.mk h5
  have G6 := Aside0.mk h6
  have G7 := Aside0.mk h7
  have G8 := Aside0.mk h8
  have W8 := Aside0.mk hw
  obtain ⟨c0, c1, c2, c3, c4, c5⟩ := cell62 h1
  clear h1 h2 h3 h4 h5 h6 h7 h8 hw
  go_enter Try.func16, Try.ntmps16
  go_wp2
  clear c0 c1 c2 c3 c4 c5
  go_loopg [5, 16] S.afl.length (fun kq v5 v16 w' => ∃ i : Nat, v16 = .int .i64 i ∧ v5 = .int .i64 (failed S cl i).2 ∧ Aside0 (i + kq = S.afl.length) ∧ Aside0 (w'.heap[g]? = some (.cells #[.slice A S.safe.length c, .map (some m), .slice B S.afl.length d, .bool S.halts, .int .i64 S.after, .bool S.halted] 62 (0, 0))) ∧ Aside0 (Kd.R Kd.string 9 w' base F (.slice A S.safe.length c) (failed S cl i).1) ∧ Aside0 (Kd.R k65 65 w' base F (.slice B S.afl.length d) S.afl) ∧ Aside0 (IsLast w' m S.last) ∧ Aside0 (Kept w w' F) ∧ Aside0 (base ≤ w.heap.size → Below base w w'))
  case atStart => exact ⟨0, rfl, rfl, ⟨by omega⟩, ⟨G1.out⟩, ⟨G6.out⟩, ⟨G7.out⟩, ⟨G8.out⟩, ⟨Kept.refl _ _⟩, ⟨fun hle => Below.refl _ _⟩⟩
  case round =>
    obtain ⟨i, rfl, rfl, HI, Q1, Q6, Q7, Q8, HK, HB⟩ := hrel
    obtain ⟨x0, x1, x2, x3, x4, x5⟩ := cell62 Q1.out
    cases gk with
    | zero =>
      have hi : i = S.afl.length := by have := HI.out; omega
      have hi1 : decide ((i : Int) < (S.afl.length : Int)) = false := decide_eq_false (by omega)
      have hi1b : decide (i < S.afl.length) = false := decide_eq_false (by omega)
      have HI2 := Aside0.mk hi
      clear hi
      have IP : IsP base F wr g { S with safe := (failed S cl i).1 } := ⟨_, m, _, Q1.out, G2.out, G3.out, G4.out, G5.out, by simpa [failed_length] using Q6.out, Q7.out, Q8.out⟩
      have IP2 := Aside0.mk IP
      clear IP
      go_wp2_with (first
        | (go_at_call 33; (with_reducible refine (sink_any IP2.out).mono ?_); rintro e w2 ⟨rfl, hi2, hk2, hb2⟩
           have E1 := Aside0.mk hi2
           have E2 := Aside0.mk hk2
           have E3 := Aside0.mk hb2
           obtain ⟨A9, c9, m9, B9, d9, r1, _⟩ := hi2.cells
           have hf3 := blk_frozen r1 3
           have hf4 := blk_frozen r1 4
           have hf5 := blk_frozen r1 5
           obtain ⟨z0, z1, z2, z3, z4, z5⟩ := cell62 r1
           clear hi2 hk2 hb2 r1))
      go_ret
      have := HI2.out
      subst this
      refine ⟨rfl, ((E1.out.set3 false).set4 0).set5 false, (((HK.out.then_ E2.out (fun _ hk => .inl hk)).setCell (.inl G3.out) _).setCell (.inl G3.out) _).setCell (.inl G3.out) _, fun hle => below_setG (below_setG (below_setG ((HB.out hle).trans (E3.out (Nat.le_trans hle HK.out.1))) G2.out _ _) G2.out _ _) G2.out _ _⟩
    | succ k1 =>
      have hi : i < S.afl.length := by have := HI.out; omega
      have hi1 : decide ((i : Int) < (S.afl.length : Int)) = true := decide_eq_true (by omega)
      have hi1b : decide (i < S.afl.length) = true := decide_eq_true hi
      have hi0 : (0 : Int) ≤ (i : Int) := by omega
      have hi2 : (i : Int) < (S.afl.length : Int) := by omega
      obtain ⟨ad, e0, y0, y1⟩ := at_T65 (Kd.R_reads' Q7.out).2.2 (i : Int) hi0 hi2
      have hp := W8.out.2 (rd_T65 S.afl i) (rd65_mem hi)
      rw [Int.toNat_natCast] at y0 y1
      generalize hpe : rd_T65 S.afl (i : Int) = pp at *
      have HPE := Aside0.mk hpe
      clear hpe
      cases e0
      have hp1 := hp.1.1
      have hp2 := hp.1.2
      have hp3 := hp.2
      clear hp
      go_upto_region 7 with (fail)
      have KA := (Below.heap_alloc wr (Obj.cells #[Value.int IntKind.i64 pp.f0, Value.string pp.f1] 65) g (blk_lt Q1.out)).trans Q1.out
      have KB : (wr.alloc (Obj.cells #[Value.int IntKind.i64 pp.f0, Value.string pp.f1] 65)).heap[wr.heap.size]? = some (.cells #[Value.int IntKind.i64 pp.f0, Value.string pp.f1] 65 (0, 0)) := (MapKept.heap_alloc wr _).1
      have SA := Aside0.mk (Kd.R_alloc Q6.out (Obj.cells #[Value.int IntKind.i64 pp.f0, Value.string pp.f1] 65))
      have RA := Aside0.mk (Kd.R_alloc Q7.out (Obj.cells #[Value.int IntKind.i64 pp.f0, Value.string pp.f1] 65))
      have LA := Aside0.mk (Q8.out.at (Below.heap_alloc wr (Obj.cells #[Value.int IntKind.i64 pp.f0, Value.string pp.f1] 65) m Q8.out.lt))
      have HKA := Aside0.mk (HK.out.alloc (Obj.cells #[Value.int IntKind.i64 pp.f0, Value.string pp.f1] 65))
      have HBA := Aside0.mk (fun (hle : base ≤ w.heap.size) => (HB.out hle).trans ((below_alloc (Below.refl wr.heap.size wr) (Obj.cells #[Value.int IntKind.i64 pp.f0, Value.string pp.f1] 65)).mono (Nat.le_trans hle HK.out.1)))
      clear x0 x1 x2 x3 x4 x5 y0 y1 Q1 Q6 Q7 Q8 HK HB
      generalize wr.alloc (Obj.cells #[Value.int IntKind.i64 pp.f0, Value.string pp.f1] 65) = wA at *
      generalize wr.heap.size = yy at *
      have JA := Aside0.mk KA
      have hcnt := failed_count S cl i
      by_cases hc : i < cl.length
      · have hc1 : decide ((i : Int) < (cl.length : Int)) = true := decide_eq_true (by omega)
        have hc1b : decide (i < cl.length) = true := decide_eq_true hc
        have hc2 : (i : Int) < (cl.length : Int) := by omega
        obtain ⟨cb, e7, y7⟩ := Kd.at_int (HC.out wA HKA.out) (i : Int) hi0 hc2
        rw [Int.toNat_natCast] at y7
        cases e7
        by_cases hz : 0 < rd cl (i : Int)
        · have HZ := Aside0.mk hz
          have hz1 : decide (0 < rd cl (i : Int)) = true := decide_eq_true hz
          obtain ⟨gs, rfl⟩ : ∃ gs, A = some ⟨gs, 0, none⟩ := by
            obtain ⟨b8, e8, _⟩ := Kd.at_string (Kd.R_reads' SA.out).2.2 pp.f0 hp1 (by rw [failed_length]; exact hp2)
            subst e8
            obtain ⟨gs, e⟩ := Kd.R_head SA.out
            exact ⟨gs, by rw [e]⟩
          obtain ⟨b8, e8, y8⟩ := Kd.at_string (Kd.R_reads' SA.out).2.2 pp.f0 hp1 (by rw [failed_length]; exact hp2)
          injection e8 with e8
          subst e8
          have hos : (rdOf ByteArray.empty (failed S cl i).1 pp.f0).size = 128 := failed_size W8.out cl i (by omega) _ (rdOf_mem hp1 (by rw [failed_length]; exact hp2))
          have HOS := Aside0.mk hos
          obtain ⟨old, hold⟩ : ∃ old, old = rdOf ByteArray.empty (failed S cl i).1 pp.f0 := ⟨_, rfl⟩
          rw [← hold] at y8 hos
          have HOLD := Aside0.mk hold
          clear hold
          obtain ⟨x0, x1, x2, x3, x4, x5⟩ := cell62 KA
          have y0 : wA.cell? ⟨yy, 0, none⟩ = some (.int .i64 pp.f0) := (blk_cell KB 0).trans rfl
          have y1 : wA.cell? ⟨yy, 1, none⟩ = some (.string pp.f1) := (blk_cell KB 1).trans rfl
          have hp1b : decide (0 ≤ pp.f0) = true := decide_eq_true hp1
          have hp2b : decide (pp.f0 < (S.safe.length : Int)) = true := decide_eq_true hp2
          have Y8 := Aside0.mk y8
          have hadd : ∀ k : Nat, (⟨gs, 0, none⟩ : Addr).add k = ⟨gs, k, none⟩ := by intro k; simp [Addr.add]; intro hk; exact hk.symm
          have y8b : wA.cell? ⟨gs, pp.f0.toNat, none⟩ = some (.string old) := by rw [hadd] at y8; exact y8
          clear hadd
          have m1 : (0 ≤ min (rd cl (i : Int)) 128) = True := eq_true (by omega)
          have m2 : (min (rd cl (i : Int)) 128 ≤ (pp.f1.size : Int)) = True := eq_true (by omega)
          have m3 : (min (rd cl (i : Int)) 128 ≤ (old.size : Int)) = True := eq_true (by omega)
          have HP3 := Aside0.mk hp3
          clear hz
          go_upto_region 9 with (fail)
          generalize hcut : min (rd cl (i : Int)) 128 = cut at *
          have HCUT := Aside0.mk hcut
          clear hcut
          have q1 : 0 ≤ cut := of_eq_true m1
          have q2 : cut ≤ (pp.f1.size : Int) := of_eq_true m2
          have q3 : cut ≤ (old.size : Int) := of_eq_true m3
          have q4 : decide (0 ≤ cut) = true := decide_eq_true q1
          have q5 : decide (cut ≤ (pp.f1.size : Int)) = true := decide_eq_true q2
          have q6 : decide (cut ≤ (old.size : Int)) = true := decide_eq_true q3
          have q7 : (pp.f1.extract 0 cut.toNat).size + (old.extract cut.toNat old.size).size ≤ 9223372036854775807 := by
            rw [ByteArray.size_extract, ByteArray.size_extract]; omega
          have q8 := eq_true q7
          have q9 := decide_eq_true q7
          have q12 : (9223372036854775807 < (pp.f1.extract 0 cut.toNat).size + (old.extract cut.toNat old.size).size) = False := eq_false (by omega)
          have q13 : (9223372036854775807 < min cut.toNat pp.f1.size + (old.size - cut.toNat)) = False := eq_false (by omega)
          have q14 : (min cut.toNat pp.f1.size + (old.size - cut.toNat) ≤ 9223372036854775807) = True := eq_true (by omega)
          have hrun57 : ∀ w, (binOp BinOp.add 9 (.string (pp.f1.extract 0 cut.toNat)) (.string (old.extract cut.toNat old.size))).run Try.prog w = .ok (.string (pp.f1.extract 0 cut.toNat ++ old.extract cut.toNat old.size)) w := fun w => add9 _ _ w q7
          have q15 : (9223372036854775807 < old.size) = False := eq_false (by omega)
          have Q7 := Aside0.mk q7
          clear q7 q8 q9 q12 q13 q14
          have q10 : (cut ≤ 128) = True := eq_true (by omega)
          clear hp3 hos
          go_still_tail 22, (by kernel_rfl)
          change wpList _ _ _ _ _ wA.drew
          refine Kd.R_store Kd.string (w0 := wA.drew) base rfl rfl 9 (.tmp 58) (.tmp 57) rfl 9 (g := gs) (n := S.safe.length) (cap := c) (o' := pp.f0.toNat) pp.f0 0 (failed S cl i).1 (pp.f1.extract 0 cut.toNat ++ old.extract cut.toNat old.size) (.string (pp.f1.extract 0 cut.toNat ++ old.extract cut.toNat old.size)) [.string (pp.f1.extract 0 cut.toNat ++ old.extract cut.toNat old.size)] [.string old] F (fun _ => False) rfl ?hoff rfl rfl (by kernel_rfl) (by intro q hq; simp at hq; subst hq; rfl) (Kd.R_drew SA.out) hp1 hp2 rfl ?hcc (Nat.le_refl 1) rfl (fun _ hk => hk.elim) (Below.refl base _) ?_
          case hoff => show pp.f0.toNat = pp.f0.toNat * 1 + 0; omega
          case hcc =>
            intro j u hj
            cases j with
            | zero =>
              have := Y8.out
              simp only [List.getElem?_cons_zero, Option.some.injEq] at hj
              subst hj
              have e : (⟨gs, pp.f0.toNat * Kd.string.sz + 0, none⟩ : Addr) = (⟨gs, 0, none⟩ : Addr).add pp.f0.toNat := by
                rw [show Kd.string.sz = 1 from rfl]
                simp [Addr.add]
              rw [e]; exact this
            | succ j => simp at hj
          intro w3 ho hb hg
          have E1 := Aside0.mk ho
          have E2 := Aside0.mk hb
          have E3 := Aside0.mk hg
          clear ho hb hg x0 x1 x2 x3 x4 x5 y0 y1 y8 y8b y7 KA KB
          go_wp2
          go_roundg k1
          case measure => omega
          case rel =>
            have n1 : some g ≠ some gs := own_blk SA.out JA.out (by decide)
            have n2 : ∀ k, some gs = some k → some k ≠ (Value.slice (some ad) S.afl.length d).ownBlock := own_types SA.out RA.out (by decide)
            have n3 : some m ≠ some gs := own_map SA.out LA.out m rfl
            have hcase : i < cl.length ∧ 0 < rd cl (i : Int) := ⟨hc, HZ.out⟩
            refine ⟨i + 1, ?_, ?_, ⟨by have := HI.out; omega⟩, ⟨(E3.out.block g (blk_lt (show wA.drew.heap[g]? = _ from JA.out)) n1).trans JA.out⟩, ⟨?_⟩, ⟨Kd.R_grown2 (Kd.R_drew RA.out) rfl E3.out n2⟩, ⟨LA.out.at (E3.out.block m LA.out.lt n3)⟩, ⟨kept_grown HKA.out.drew E3.out (fun k hk => by injection hk with hk; subst hk; exact .inl (SA.out.1 gs rfl))⟩, ⟨fun hle => ((HBA.out hle).trans (below_drew (Below.refl base wA))).trans E2.out⟩⟩
            · first | rfl | (simp; done) | (rw [Value.int.injEq]; refine ⟨rfl, ?_⟩; have h1 := HI.out; have h2 := HL.out; unfold wrap64; omega)
            · rw [failed, if_pos hcase]
              first | rfl | (simp; done) | (rw [Value.int.injEq]; refine ⟨rfl, ?_⟩; have h1 := HI.out; have h2 := HL.out; have h3 := hcnt; unfold wrap64; omega)
            · rw [failed, if_pos hcase, HPE.out, HCUT.out, ← HOLD.out]; exact E1.out
        · have hz1 : decide (0 < rd cl (i : Int)) = false := decide_eq_false hz
          have HZ := Aside0.mk hz
          clear hz
          go_wp2
          go_roundg k1
          case measure => omega
          case rel =>
            refine ⟨i + 1, ?_, ?_, ⟨by have := HI.out; omega⟩, ⟨JA.out⟩, ⟨?_⟩, ⟨RA.out⟩, ⟨LA.out⟩, ⟨HKA.out⟩, ⟨HBA.out⟩⟩
            · first | rfl | (simp; done) | (rw [Value.int.injEq]; refine ⟨rfl, ?_⟩; have h1 := HI.out; have h2 := HL.out; unfold wrap64; omega)
            · rw [failed, if_neg (fun hx => by have h1 := HZ.out; have h2 := hx.2; omega)]
            · rw [failed, if_neg (fun hx => by have h1 := HZ.out; have h2 := hx.2; omega)]; exact SA.out
      · have hc1 : decide ((i : Int) < (cl.length : Int)) = false := decide_eq_false (by omega)
        have hc1b : decide (i < cl.length) = false := decide_eq_false hc
        have HZ := Aside0.mk hc
        clear hc
        go_wp2
        go_roundg k1
        case measure => omega
        case rel =>
          refine ⟨i + 1, ?_, ?_, ⟨by have := HI.out; omega⟩, ⟨JA.out⟩, ⟨?_⟩, ⟨RA.out⟩, ⟨LA.out⟩, ⟨HKA.out⟩, ⟨HBA.out⟩⟩
          · first | rfl | (simp; done) | (rw [Value.int.injEq]; refine ⟨rfl, ?_⟩; have h1 := HI.out; have h2 := HL.out; unfold wrap64; omega)
          · rw [failed, if_neg (fun hx => HZ.out hx.1)]
          · rw [failed, if_neg (fun hx => HZ.out hx.1)]; exact SA.out
end Go.Proofs.Ytcmldpacgbhfmaa.V
