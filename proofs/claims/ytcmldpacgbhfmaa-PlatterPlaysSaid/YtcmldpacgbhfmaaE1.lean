/- The document's own platter: Settle. -/
import Derived.Test.YtcmldpacgbhfmaaE0
namespace Go.Proofs.Ytcmldpacgbhfmaa.V
open Go.RowKit Go.Proofs.YtcmldpacgbhfmaaW.PrintWords Go.Proofs.YtcmldpacgbhfmaaW.PrintLast Go.Proofs.YtcmldpacgbhfmaaW.PrintMore
set_option linter.unusedVariables false
set_option linter.unusedSimpArgs false

def setAll (sf : List ByteArray) (l : List S65) : List ByteArray := l.foldl (fun sf p => sf.set p.f0.toNat p.f1) sf
theorem setAll_length (sf : List ByteArray) (l : List S65) : (setAll sf l).length = sf.length := by
  unfold setAll
  induction l generalizing sf with
  | nil => rfl
  | cons p t ih => rw [List.foldl_cons, ih, List.length_set]
theorem take_snoc65 (l : List S65) (i : Nat) (h : i < l.length) : l.take (i + 1) = l.take i ++ [rd_T65 l (i : Int)] := by
  rw [List.take_succ_eq_append_getElem h]
  unfold rd_T65
  rw [Int.toNat_natCast, List.getD, List.getElem?_eq_getElem h]; rfl
theorem setAll_snoc (sf : List ByteArray) (l : List S65) (p : S65) : setAll sf (l ++ [p]) = (setAll sf l).set p.f0.toNat p.f1 := by
  unfold setAll
  rw [List.foldl_append]; rfl
set_option maxHeartbeats 8000000 in
set_option maxRecDepth 100000 in
theorem rsettle_no {base : Nat} {F : Nat → Prop} {w : World} {g : Nat} {S : RS} (h : IsR base F w g S) (hh : S.dead = true) :
    Calls Try.prog 27 #[.pointer (some ⟨g, 0, none⟩)] w fun e w' => e = .returned (.int .i64 7) ∧ Below w.heap.size w w' := by
  obtain ⟨A, c, B, d, h1, _, _, h6, h7⟩ := h.cells
  obtain ⟨c0, c1, c2, c3⟩ := cell55 h1
  rw [hh] at c2
  clear h h1 h6 h7
  go_enter Try.func27, Try.ntmps27
  go_wp2
  go_ret
  exact ⟨rfl, Below.refl _ _⟩
set_option maxHeartbeats 8000000 in
set_option maxRecDepth 100000 in
theorem rsettle_any {base : Nat} {F : Nat → Prop} {w : World} {g : Nat} {S : RS} (h : IsR base F w g S) (hh : S.dead = false) (hw : ∀ p ∈ S.float, 0 ≤ p.f0 ∧ p.f0 < S.last.length) (hl : S.float.length ≤ 1000000) :
    Calls Try.prog 27 #[.pointer (some ⟨g, 0, none⟩)] w fun e w' => e = .returned (.int .i64 0) ∧ IsR base F w' g { S with last := setAll S.last S.float, float := [] } ∧ Kept w w' F ∧ (base ≤ w.heap.size → Below base w w') := by
  have HL := Aside0.mk hl
  obtain ⟨A, c, B, d, h1, h2, h3, h6, h7⟩ := h.cells
  obtain ⟨c0, c1, c2, c3⟩ := cell55 h1
  rw [hh] at c2
  have G1 := Aside0.mk h1
  have G2 := Aside0.mk h2
  have G3 := Aside0.mk h3
  have G6 := Aside0.mk h6
  have G7 := Aside0.mk h7
  have W8 := Aside0.mk hw
  have HH := Aside0.mk hh
  clear h h1 h2 h3 h6 h7 hw hl hh
  go_enter Try.func27, Try.ntmps27
  go_wp2
  clear c0 c1 c2 c3
  go_loopg [3] S.float.length (fun kq v3 w' => ∃ i : Nat, v3 = .int .i64 i ∧ Aside0 (i + kq = S.float.length) ∧ Aside0 (w'.heap[g]? = some (.cells #[.slice A S.last.length c, .slice B S.float.length d, .bool S.dead, .int .i64 S.after] 55 (0, 0))) ∧ Aside0 (Kd.R Kd.string 9 w' base F (.slice A S.last.length c) (setAll S.last (S.float.take i))) ∧ Aside0 (Kd.R k65 70 w' base F (.slice B S.float.length d) S.float) ∧ Aside0 (Kept w w' F) ∧ Aside0 (base ≤ w.heap.size → Below base w w'))
  case atStart => exact ⟨0, rfl, ⟨by omega⟩, G1, G6, G7, ⟨Kept.refl _ _⟩, ⟨fun hle => Below.refl _ _⟩⟩
  case round =>
    obtain ⟨i, rfl, HI, Q1, Q6, Q7, HK, HB⟩ := hrel
    obtain ⟨x0, x1, x2, x3⟩ := cell55 Q1.out
    have xf1 := blk_frozen Q1.out 1
    cases gk with
    | zero =>
      have hi : i = S.float.length := by have := HI.out; omega
      have hi1 : decide ((i : Int) < (S.float.length : Int)) = false := decide_eq_false (by omega)
      have hi1b : decide (i < S.float.length) = false := decide_eq_false (by omega)
      have HI2 := Aside0.mk hi
      clear hi
      have IP : IsR base F wr g { S with last := setAll S.last (S.float.take i) } := ⟨_, _, Q1.out, G2.out, G3.out, by simpa [setAll_length] using Q6.out, Q7.out⟩
      have IP2 := Aside0.mk IP
      clear IP
      go_wp2
      go_ret
      have e := HI2.out
      subst e
      have i2 := IP2.out.set1
      rw [List.take_length] at i2
      refine ⟨rfl, i2, HK.out.setCell (.inl G3.out) _, fun hle => below_setG (HB.out hle) G2.out _ _⟩
    | succ k1 =>
      have hi : i < S.float.length := by have := HI.out; omega
      have hi1 : decide ((i : Int) < (S.float.length : Int)) = true := decide_eq_true (by omega)
      have hi1b : decide (i < S.float.length) = true := decide_eq_true hi
      have hi1c : (i < S.float.length) = True := eq_true hi
      have hi0 : (0 : Int) ≤ (i : Int) := by omega
      have hi2 : (i : Int) < (S.float.length : Int) := by omega
      obtain ⟨ad, e0, y0, y1⟩ := at_T65 (Kd.R_reads' Q7.out).2.2 (i : Int) hi0 hi2
      have hp := W8.out (rd_T65 S.float i) (by unfold rd_T65; rw [Int.toNat_natCast, List.getD, List.getElem?_eq_getElem hi]; exact List.getElem_mem hi)
      have hsn := take_snoc65 S.float i hi
      rw [Int.toNat_natCast] at y0 y1
      generalize hpe : rd_T65 S.float (i : Int) = pp at *
      have HPE := Aside0.mk hpe
      have HSN := Aside0.mk hsn
      clear hpe hsn
      cases e0
      have hp1 := hp.1
      have hp2 := hp.2
      clear hp
      have hp1b : decide (0 ≤ pp.f0) = true := decide_eq_true hp1
      have hp2b : decide (pp.f0 < (S.last.length : Int)) = true := decide_eq_true hp2
      obtain ⟨gs, rfl⟩ : ∃ gs, A = some ⟨gs, 0, none⟩ := by
        obtain ⟨b8, e8, _⟩ := Kd.at_string (Kd.R_reads' Q6.out).2.2 pp.f0 hp1 (by rw [setAll_length]; exact hp2)
        subst e8
        obtain ⟨gs, e⟩ := Kd.R_head Q6.out
        exact ⟨gs, by rw [e]⟩
      obtain ⟨b8, e8, y8⟩ := Kd.at_string (Kd.R_reads' Q6.out).2.2 pp.f0 hp1 (by rw [setAll_length]; exact hp2)
      injection e8 with e8
      subst e8
      have Y8 := Aside0.mk y8
      have P1 := Aside0.mk hp1
      have P2 := Aside0.mk hp2
      clear y8
      go_upto_region 6 with (fail)
      go_still_tail 21, (by kernel_rfl)
      change wpList _ _ _ _ _ wr.drew
      refine Kd.R_store Kd.string (w0 := wr.drew) base rfl rfl 9 (.tmp 37) (.tmp 36) rfl 9 (g := gs) (n := S.last.length) (cap := c) (o' := pp.f0.toNat) pp.f0 0 (setAll S.last (S.float.take i)) pp.f1 (.string pp.f1) [.string pp.f1] [.string (rdOf ByteArray.empty (setAll S.last (S.float.take i)) pp.f0)] F (fun _ => False) rfl ?hoff rfl rfl (by kernel_rfl) (by intro q hq; simp at hq; subst hq; rfl) (Kd.R_drew Q6.out) P1.out P2.out rfl ?hcc (Nat.le_refl 1) rfl (fun _ hk => hk.elim) (Below.refl base _) ?_
      case hoff => show pp.f0.toNat = pp.f0.toNat * 1 + 0; omega
      case hcc =>
        intro j u hj
        cases j with
        | zero =>
          have := Y8.out
          simp only [List.getElem?_cons_zero, Option.some.injEq] at hj
          subst hj
          have e : (⟨gs, pp.f0.toNat * Kd.string.sz + 0, none⟩ : Addr) = (⟨gs, 0, none⟩ : Addr).add pp.f0.toNat := by
            rw [show Kd.string.sz = 1 from rfl]
            simp [Addr.add]
          rw [e]; exact this
        | succ j => simp at hj
      intro w3 ho hb hg
      have E1 := Aside0.mk ho
      have E2 := Aside0.mk hb
      have E3 := Aside0.mk hg
      clear ho hb hg x0 x1 x2 x3 y0 y1 xf1
      go_wp2
      go_roundg k1
      case measure => omega
      case rel =>
        have n1 : some g ≠ some gs := own_blk Q6.out Q1.out (by decide)
        have n2 : ∀ k, some gs = some k → some k ≠ (Value.slice (some ad) S.float.length d).ownBlock := own_types Q6.out Q7.out (by decide)
        refine ⟨i + 1, ?_, ⟨by have := HI.out; omega⟩, ⟨(E3.out.block g (blk_lt (show wr.drew.heap[g]? = _ from Q1.out)) n1).trans Q1.out⟩, ⟨?_⟩, ⟨Kd.R_grown2 (Kd.R_drew Q7.out) rfl E3.out n2⟩, ⟨kept_grown HK.out.drew E3.out (fun k hk => by injection hk with hk; subst hk; exact .inl (Q6.out.1 gs rfl))⟩, ⟨fun hle => ((HB.out hle).trans (below_drew (Below.refl base wr))).trans E2.out⟩⟩
        · first | rfl | (simp; done) | (rw [Value.int.injEq]; refine ⟨rfl, ?_⟩; have h1 := HI.out; have h2 := HL.out; unfold wrap64; omega)
        · rw [HSN.out, setAll_snoc]; exact E1.out
end Go.Proofs.Ytcmldpacgbhfmaa.V
