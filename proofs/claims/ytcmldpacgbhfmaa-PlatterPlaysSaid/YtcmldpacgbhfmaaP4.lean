/- A platter: Settle. -/
import Derived.Test.YtcmldpacgbhfmaaP3
import Derived.StillTailTactics
namespace Go.Proofs.Ytcmldpacgbhfmaa.V
open Go.RowKit Go.Proofs.YtcmldpacgbhfmaaW.PrintWords Go.Proofs.YtcmldpacgbhfmaaW.PrintLast Go.Proofs.YtcmldpacgbhfmaaW.PrintMore
set_option linter.unusedVariables false
set_option linter.unusedSimpArgs false

def z65 : S65 := ⟨0, ⟨#[]⟩⟩
def rd_T65 (xs : List S65) (i : Int) : S65 := xs.getD i.toNat z65
theorem at_T65 {w : World} {A : Option Addr} {n : Nat} {xs : List S65} (h : Kd.C k65 w A n xs) (i : Int) (h0 : 0 ≤ i) (h1 : i < n) : ∃ ad , A = some ad ∧ w.cell? (ad.add (i.toNat * 2)) = some (.int .i64 (rd_T65 xs i).f0) ∧ w.cell? ⟨(ad.add (i.toNat * 2)).block, (ad.add (i.toNat * 2)).off + 1, none⟩ = some (.string (rd_T65 xs i).f1) := by
  obtain ⟨ad, c, e, _, hK, hc0⟩ := Kd.C_get h z65 i h0 h1
  have hc : ∀ j u, c[j]? = some u → w.cell? (ad.add (i.toNat * 2 + j)) = some u := hc0
  obtain rfl := k65_open hK
  exact ⟨ad, e, hc 0 _ rfl, by rw [← add_field _ _ 1 (by omega)]; exact hc 1 _ rfl⟩
/-- the pages with the first i of what is afloat -/
def settled (S : PS) (i : Nat) : List ByteArray := (S.afl.take i).foldl (fun sf p => sf.set p.f0.toNat p.f1) S.safe
theorem settled_length (S : PS) (i : Nat) : (settled S i).length = S.safe.length := by
  unfold settled
  generalize S.afl.take i = l
  generalize S.safe = sf
  induction l generalizing sf with
  | nil => rfl
  | cons p t ih => rw [List.foldl_cons, ih, List.length_set]
theorem settled_succ (S : PS) (i : Nat) (h : i < S.afl.length) : settled S (i + 1) = (settled S i).set (rd_T65 S.afl i).f0.toNat (rd_T65 S.afl i).f1 := by
  unfold settled rd_T65
  rw [List.take_succ_eq_append_getElem h, List.foldl_append, List.foldl_cons, List.foldl_nil, Int.toNat_natCast, List.getD, List.getElem?_eq_getElem h]; rfl
set_option maxHeartbeats 8000000 in
set_option maxRecDepth 100000 in
theorem settle_any {base : Nat} {F : Nat → Prop} {w : World} {g : Nat} {S : PS} (h : IsP base F w g S) (hh : S.halted = false) (hw : ∀ p ∈ S.afl, 0 ≤ p.f0 ∧ p.f0 < S.safe.length) (hl : S.afl.length ≤ 1000000) :
    Calls Try.prog 15 #[.pointer (some ⟨g, 0, none⟩)] w fun e w' => e = .returned (.int .i64 0) ∧ IsP base F w' g { S with safe := settled S S.afl.length, afl := [], last := fun _ => none } ∧ Kept w w' F ∧ (base ≤ w.heap.size → Below base w w') := by
  have HP := Aside0.mk h
  have HL := Aside0.mk hl
  clear hl
  obtain ⟨A, c, m, B, d, h1, h2, h3, h4, h5, h6, h7, h8⟩ := h.cells
  have G1 := Aside0.mk h1
  have G2 := Aside0.mk h2
  have G3 := Aside0.mk h3
  have G4 := Aside0.mk h4
  have G5 := Aside0.mk h5
  have G6 := Aside0.mk h6
  have G7 := Aside0.mk h7
  have G8 := Aside0.mk h8
  have W8 := Aside0.mk hw
  clear h1 h2 h3 h4 h5 h6 h7 h8 hw
  go_enter Try.func15, Try.ntmps15
  go_wp2_with (first
      | (go_at_call 21; (with_reducible refine (halted_any HP.out).mono ?_); rintro e w1 ⟨rfl, hb⟩; rw [hh]
         have HB1 := Aside0.mk hb
         have K1 := (hb.block g (blk_lt G1.out)).trans G1.out
         obtain ⟨c0, c1, c2, c3, c4, c5⟩ := cell62 K1
         clear K1 hb))
  clear c0 c1 c2 c3 c4 c5
  go_loopg [12] S.afl.length (fun kq v12 w' => ∃ i : Nat, v12 = .int .i64 i ∧ Aside0 (i + kq = S.afl.length) ∧ Aside0 (w'.heap[g]? = some (.cells #[.slice A S.safe.length c, .map (some m), .slice B S.afl.length d, .bool S.halts, .int .i64 S.after, .bool S.halted] 62 (0, 0))) ∧ Aside0 (Kd.R Kd.string 9 w' base F (.slice A S.safe.length c) (settled S i)) ∧ Aside0 (Kd.R k65 65 w' base F (.slice B S.afl.length d) S.afl) ∧ Aside0 (IsLast w' m S.last) ∧ Aside0 (Kept w w' F) ∧ Aside0 (base ≤ w.heap.size → Below base w w'))
  case atStart => exact ⟨0, rfl, ⟨by omega⟩, ⟨(HB1.out.block g (blk_lt G1.out)).trans G1.out⟩, ⟨Kd.R_step G6.out (fun k _ hk => HB1.out.block k hk)⟩, ⟨Kd.R_step G7.out (fun k _ hk => HB1.out.block k hk)⟩, ⟨G8.out.at (HB1.out.block m G8.out.lt)⟩, ⟨Kept.of_below HB1.out _⟩, ⟨fun hle => HB1.out.mono hle⟩⟩
  case round =>
    obtain ⟨i, rfl, HI, Q1, Q6, Q7, Q8, HK, HB⟩ := hrel
    obtain ⟨x0, x1, x2, x3, x4, x5⟩ := cell62 Q1.out
    cases gk with
    | zero =>
      have hi : i = S.afl.length := by have := HI.out; omega
      have hi1 : decide ((i : Int) < (S.afl.length : Int)) = false := decide_eq_false (by omega)
      have hi1b : decide (i < S.afl.length) = false := decide_eq_false (by omega)
      have HI2 := Aside0.mk hi
      clear hi
      have IP : IsP base F wr g { S with safe := settled S i } := ⟨_, m, _, Q1.out, G2.out, G3.out, G4.out, G5.out, by simpa [settled_length] using Q6.out, Q7.out, Q8.out⟩
      have IP2 := Aside0.mk IP
      clear IP
      go_wp2_with (first
        | (go_at_call 33; (with_reducible refine (sink_any IP2.out).mono ?_); rintro e w2 ⟨rfl, hi2, hk2, hb2⟩
           have E1 := Aside0.mk hi2
           have E2 := Aside0.mk hk2
           have E3 := Aside0.mk hb2
           clear hi2 hk2 hb2))
      go_ret
      have := HI2.out
      subst this
      refine ⟨rfl, E1.out, HK.out.then_ E2.out (fun _ hk => .inl hk), fun hle => (HB.out hle).trans (E3.out (Nat.le_trans hle HK.out.1))⟩
    | succ k1 =>
      have hi : i < S.afl.length := by have := HI.out; omega
      have hi1 : decide ((i : Int) < (S.afl.length : Int)) = true := decide_eq_true (by omega)
      have hi1b : decide (i < S.afl.length) = true := decide_eq_true hi
      have hi0 : (0 : Int) ≤ (i : Int) := by omega
      have hi2 : (i : Int) < (S.afl.length : Int) := by omega
      obtain ⟨ad, e0, y0, y1⟩ := at_T65 (Kd.R_reads' Q7.out).2.2 (i : Int) hi0 hi2
      have hp := W8.out (rd_T65 S.afl i) (by unfold rd_T65; rw [Int.toNat_natCast, List.getD, List.getElem?_eq_getElem hi]; exact List.getElem_mem hi)
      rw [Int.toNat_natCast] at y0 y1
      generalize hpe : rd_T65 S.afl (i : Int) = pp at *
      have HPE := Aside0.mk hpe
      clear hpe
      obtain ⟨b9, e9, y9⟩ := Kd.at_string (Kd.R_reads' Q6.out).2.2 pp.f0 hp.1 (by rw [settled_length]; exact hp.2)
      cases e0
      cases e9
      have hp1 := hp.1
      have hp2 := hp.2
      clear hp
      go_wp2
      have KA := (Below.heap_alloc wr (Obj.cells #[Value.int IntKind.i64 pp.f0, Value.string pp.f1] 65) g (blk_lt Q1.out)).trans Q1.out
      have KB : (wr.alloc (Obj.cells #[Value.int IntKind.i64 pp.f0, Value.string pp.f1] 65)).heap[wr.heap.size]? = some (.cells #[Value.int IntKind.i64 pp.f0, Value.string pp.f1] 65 (0, 0)) := (MapKept.heap_alloc wr _).1
      have SA := Aside0.mk (Kd.R_alloc Q6.out (Obj.cells #[Value.int IntKind.i64 pp.f0, Value.string pp.f1] 65))
      have RA := Aside0.mk (Kd.R_alloc Q7.out (Obj.cells #[Value.int IntKind.i64 pp.f0, Value.string pp.f1] 65))
      have LA := Aside0.mk (Q8.out.at (Below.heap_alloc wr (Obj.cells #[Value.int IntKind.i64 pp.f0, Value.string pp.f1] 65) m Q8.out.lt))
      have HKA := Aside0.mk (HK.out.alloc (Obj.cells #[Value.int IntKind.i64 pp.f0, Value.string pp.f1] 65))
      have HBA := Aside0.mk (fun (hle : base ≤ w.heap.size) => (HB.out hle).trans ((below_alloc (Below.refl wr.heap.size wr) (Obj.cells #[Value.int IntKind.i64 pp.f0, Value.string pp.f1] 65)).mono (Nat.le_trans hle HK.out.1)))
      clear x0 x1 x2 x3 x4 x5 y0 y1 y9 Q1 Q6 Q7 Q8 HK HB
      generalize wr.alloc (Obj.cells #[Value.int IntKind.i64 pp.f0, Value.string pp.f1] 65) = wA at *
      generalize wr.heap.size = yy at *
      obtain ⟨x0, x1, x2, x3, x4, x5⟩ := cell62 KA
      have y0 : wA.cell? ⟨yy, 0, none⟩ = some (.int .i64 pp.f0) := (blk_cell KB 0).trans rfl
      have y1 : wA.cell? ⟨yy, 1, none⟩ = some (.string pp.f1) := (blk_cell KB 1).trans rfl
      have hp1b : decide (0 ≤ pp.f0) = true := decide_eq_true hp1
      have hp2b : decide (pp.f0 < (S.safe.length : Int)) = true := decide_eq_true hp2
      obtain ⟨gs, rfl⟩ := Kd.R_head SA.out
      obtain ⟨b8, e8, y8⟩ := Kd.at_string (Kd.R_reads' SA.out).2.2 pp.f0 hp1 (by rw [settled_length]; exact hp2)
      injection e8 with e8
      subst e8
      have Y8 := Aside0.mk y8
      clear y8
      go_still_tail 9, (by kernel_rfl)
      change wpList _ _ _ _ _ wA.drew
      refine Kd.R_store Kd.string (w0 := wA.drew) base rfl rfl 9 (.tmp 24) (.tmp 23) rfl 9 (g := gs) (n := S.safe.length) (cap := c) (o' := pp.f0.toNat) pp.f0 0 (settled S i) pp.f1 (.string pp.f1) [.string pp.f1] [.string (rdOf ByteArray.empty (settled S i) pp.f0)] F (fun _ => False) rfl ?hoff rfl rfl (by kernel_rfl) (by intro q hq; simp at hq; subst hq; rfl) (Kd.R_drew SA.out) hp1 hp2 rfl ?hcc (Nat.le_refl 1) rfl (fun _ hk => hk.elim) (Below.refl base _) ?_
      case hoff => show pp.f0.toNat = pp.f0.toNat * 1 + 0; omega
      case hcc =>
        intro j u hj
        cases j with
        | zero =>
          have := Y8.out
          simp only [List.getElem?_cons_zero, Option.some.injEq] at hj
          subst hj
          have e : (⟨gs, pp.f0.toNat * Kd.string.sz + 0, none⟩ : Addr) = (⟨gs, 0, none⟩ : Addr).add pp.f0.toNat := by
            rw [show Kd.string.sz = 1 from rfl]
            simp [Addr.add]
          rw [e]; exact this
        | succ j => simp at hj
      intro w3 ho hb hg
      have E1 := Aside0.mk ho
      have E2 := Aside0.mk hb
      have E3 := Aside0.mk hg
      have JA := Aside0.mk KA
      clear ho hb hg x0 x1 x2 x3 x4 x5 y0 y1 KA KB
      go_wp2
      go_roundg k1
      case measure => omega
      case rel =>
        have n1 : some g ≠ some gs := own_blk SA.out JA.out (by decide)
        have n2 : ∀ k, some gs = some k → some k ≠ (Value.slice (some ad) S.afl.length d).ownBlock := own_types SA.out RA.out (by decide)
        have n3 : some m ≠ some gs := own_map SA.out LA.out m rfl
        refine ⟨i + 1, ?_, ⟨by have := HI.out; omega⟩, ⟨(E3.out.block g (blk_lt (show wA.drew.heap[g]? = _ from JA.out)) n1).trans JA.out⟩, ⟨?_⟩, ⟨Kd.R_grown2 (Kd.R_drew RA.out) rfl E3.out n2⟩, ⟨LA.out.at (E3.out.block m LA.out.lt n3)⟩, ⟨kept_grown HKA.out.drew E3.out (fun k hk => by injection hk with hk; subst hk; exact .inl (SA.out.1 gs rfl))⟩, ⟨fun hle => ((HBA.out hle).trans (below_drew (Below.refl base wA))).trans E2.out⟩⟩
        · first | rfl | (simp; done) | (rw [Value.int.injEq]; refine ⟨rfl, ?_⟩; have h1 := HI.out; have h2 := HL.out; unfold wrap64; omega)
        · rw [settled_succ S i hi, HPE.out]; exact E1.out
end Go.Proofs.Ytcmldpacgbhfmaa.V
