/- Of the texts that the row stands on, what it needs (part 33), put together by a program of this session. -/
import Derived.Test.YtpeeojbhfebcdaaYT32
import Derived.Test.YtpeeojbhfebcdaaYT13
import Derived.Test.YtpeeojbhfebcdaaYT31
import Derived.Test.YtpeeojbhfebcdaaYT29
import Derived.Test.YtpeeojbhfebcdaaYT26
import Derived.WalkKit
import Derived.ProofKit
import Derived.OpenShut
import Derived.ChangeOld
import Derived.ChangeSlices
import Derived.Below
import Derived.SizedLaws
import Derived.DataReads
import Derived.DataElems
section
namespace Go.Proofs.Ytpeeojbhfebcdaa.V
open Go.RowKit Go.Proofs.YtpeeojbhfebcdaaW.PrintWords Go.Proofs.YtpeeojbhfebcdaaW.PrintLast Go.Proofs.YtpeeojbhfebcdaaW.PrintMore
set_option linter.unusedVariables false
set_option linter.unusedSimpArgs false
def to84 (x : R2) : PRd.S84 := ⟨x.1, x.2⟩
def to45 (x : R2) : PRd.S45 := ⟨x.1, x.2⟩
theorem rd84 (l : List R2) (i : Int) : PRd.rd_T84 (l.map to84) i = to84 (atR l i.toNat) := by
  unfold PRd.rd_T84 atR
  rw [List.getD_eq_getElem?_getD, List.getD_eq_getElem?_getD, List.getElem?_map]
  cases l[i.toNat]? <;> rfl
theorem rd45 (l : List R2) (i : Int) : PRd.rd_T45 (l.map to45) i = to45 (atR l i.toNat) := by
  unfold PRd.rd_T45 atR
  rw [List.getD_eq_getElem?_getD, List.getD_eq_getElem?_getD, List.getElem?_map]
  cases l[i.toNat]? <;> rfl
theorem map45 (l : List R2) : (l.map to45).map (fun x : PRd.S45 => (x.f0, x.f1)) = l := by
  rw [List.map_map]
  conv => rhs; rw [← List.map_id l]
  rfl
theorem map84 (l : List R2) : (l.map to84).map (fun x : PRd.S84 => (x.f0, x.f1)) = l := by
  rw [List.map_map]
  conv => rhs; rw [← List.map_id l]
  rfl
theorem recs_l0 (l : List R2) (hl : l.length ≤ 1000000) (d : Nat) : ∀ (k i : Nat), l.length - i = d → i ≤ l.length → d < k → PRd.maquettelaw16_Records.l0 k ((l.take i).map to84) (l.map to45) (l.length : Int) (i : Int) = some (l.map to84) := by
  induction d with
  | zero =>
    intro k i hd hi hk
    obtain ⟨k, rfl⟩ : ∃ m, k = m + 1 := ⟨k - 1, by omega⟩
    simp only [PRd.maquettelaw16_Records.l0]
    rw [if_neg (by omega), List.take_of_length_le (by omega)]
  | succ d ih =>
    intro k i hd hi hk
    obtain ⟨k, rfl⟩ : ∃ m, k = m + 1 := ⟨k - 1, by omega⟩
    have hi2 : i < l.length := by omega
    simp only [PRd.maquettelaw16_Records.l0]
    rw [if_pos (by omega), if_pos (by omega), if_pos (by rw [List.length_map]; omega), if_pos (by rw [List.length_map, List.length_take]; omega), rd45]
    rw [show wrap64 ((i : Int) + 1) = ((i + 1 : Nat) : Int) from by unfold wrap64; omega]
    have e : (l.take i).map to84 ++ [(⟨(to45 (atR l (i : Int).toNat)).f0, (to45 (atR l (i : Int).toNat)).f1⟩ : PRd.S84)] = (l.take (i + 1)).map to84 := by
      rw [List.take_succ_eq_append_getElem hi2, List.map_append]
      congr 2
      unfold atR
      rw [Int.toNat_natCast, List.getD_eq_getElem?_getD, List.getElem?_eq_getElem hi2]; rfl
    rw [e]
    exact ih k (i + 1) (by omega) (by omega) (by omega)
theorem recs_f (l : List R2) (hl : l.length ≤ 1000000) (k : Nat) (hk : l.length < k) : PRd.maquettelaw16_Records.f k (l.map to45) = some (l.map to84) := by
  unfold PRd.maquettelaw16_Records.f
  rw [List.length_map]
  exact recs_l0 l hl l.length k 0 (by omega) (by omega) hk
theorem same_l0 (s m : List R2) (hs : s.length ≤ 1000000) (d : Nat) : ∀ (k i : Nat), s.length - i = d → i ≤ s.length → i ≤ m.length → d < k → PRd.maquettelaw16_SameRecords.l0 k (m.map to84) (s.map to84) (s.length : Int) (i : Int) = some (decide (s.drop i = m.drop i)) := by
  induction d with
  | zero =>
    intro k i hd hi hm hk
    obtain ⟨k, rfl⟩ : ∃ m, k = m + 1 := ⟨k - 1, by omega⟩
    simp only [PRd.maquettelaw16_SameRecords.l0]
    rw [if_neg (by omega), List.drop_of_length_le (show s.length ≤ i by omega)]
    congr 1
    rw [Bool.eq_iff_iff, beq_iff_eq, decide_eq_true_eq, List.length_map, List.length_map]
    constructor
    · intro h; exact (List.drop_of_length_le (by omega)).symm
    · intro h
      have := congrArg List.length h
      rw [List.length_drop] at this
      simp at this; omega
  | succ d ih =>
    intro k i hd hi hm hk
    obtain ⟨k, rfl⟩ : ∃ m, k = m + 1 := ⟨k - 1, by omega⟩
    have hi2 : i < s.length := by omega
    simp only [PRd.maquettelaw16_SameRecords.l0]
    rw [if_pos (by omega)]
    by_cases hml : m.length ≤ i
    · rw [if_pos (by rw [List.length_map]; omega), decide_eq_false]
      rw [List.drop_of_length_le hml, List.drop_eq_getElem_cons hi2]
      exact List.cons_ne_nil _ _
    · have hm2 : i < m.length := by omega
      rw [if_neg (by rw [List.length_map]; omega), if_pos (by omega), if_pos (by rw [List.length_map]; omega), if_pos (by rw [List.length_map]; omega), rd84, rd84, Int.toNat_natCast]
      have es : atR s i = s[i] := by unfold atR; rw [List.getD_eq_getElem?_getD, List.getElem?_eq_getElem hi2]; rfl
      have em : atR m i = m[i] := by unfold atR; rw [List.getD_eq_getElem?_getD, List.getElem?_eq_getElem hm2]; rfl
      rw [es, em, show wrap64 ((i : Int) + 1) = ((i + 1 : Nat) : Int) from by unfold wrap64; omega, ih k (i + 1) (by omega) (by omega) (by omega) (by omega)]
      rw [List.drop_eq_getElem_cons hi2, List.drop_eq_getElem_cons hm2]
      show (if (!(s[i].1 == m[i].1) || !(s[i].2.toList == m[i].2.toList)) = true then some false else _) = _
      have ht : (s[i].2.toList == m[i].2.toList) = decide (s[i].2 = m[i].2) := by
        have := toList_ne (a := s[i].2) (b := m[i].2)
        rw [bne] at this
        have h2 := congrArg (!·) this
        simpa using h2
      rw [ht]
      by_cases h1 : s[i].1 = m[i].1
      · by_cases h2 : s[i].2 = m[i].2
        · rw [if_neg (by rw [h1, h2]; simp)]
          congr 1
          rw [decide_eq_decide]
          constructor
          · intro h; rw [h, Prod.ext h1 h2]
          · intro h; injection h
        · rw [if_pos (by rw [decide_eq_false h2]; simp), decide_eq_false]
          intro h
          injection h with h _
          exact h2 (by rw [h])
      · rw [if_pos (by rw [beq_eq_false_iff_ne.2 h1]; rfl), decide_eq_false]
        intro h
        injection h with h _
        exact h1 (by rw [h])
theorem same_f (s m : List R2) (hs : s.length ≤ 1000000) (k : Nat) (hk : s.length < k) : PRd.maquettelaw16_SameRecords.f k (s.map to45) (m.map to84) = some (decide (s = m)) := by
  unfold PRd.maquettelaw16_SameRecords.f
  rw [recs_f s hs k hk, Option.bind_some, List.length_map]
  exact same_l0 s m hs s.length k 0 (by omega) (by omega) (by omega) hk
theorem recs_any (A : Option Addr) (c : Nat) (l : List R2) (w : World) (h : Kd.C kR w A l.length l) (hc : l.length ≤ c) (hl : l.length ≤ 1000000) :
    Calls Try.prog 14 #[.slice A l.length c] w fun e w' => ∃ v : Value, e = .returned v ∧ kR.R 84 w' w.heap.size (fun _ => True) v l ∧ Below w.heap.size w w' := by
  have H := PRd.maquettelaw16_Records.calls (l.length + 1) A c (l.map to45) _ w (by rw [List.length_map]; exact C_iso_mk (f := fun x : PRd.S45 => (x.f0, x.f1)) (by rw [map45]; exact h)) (by rw [List.length_map]; exact hc) (recs_f l hl (l.length + 1) (by omega))
  rw [List.length_map] at H
  refine H.mono ?_
  rintro e w' ⟨v, rfl, hR, hb⟩
  have := R_iso (f := fun x : PRd.S84 => (x.f0, x.f1)) hR
  rw [map84] at this
  exact ⟨v, rfl, this, hb⟩
theorem same_any (A : Option Addr) (c : Nat) (l : List R2) (B : Option Addr) (d : Nat) (m : List R2) (w : World) (h : Kd.C kR w A l.length l) (hc : l.length ≤ c) (hl : l.length ≤ 1000000) (h2 : Kd.C kR w B m.length m) (hd : m.length ≤ d) :
    Calls Try.prog 25 #[.slice A l.length c, .slice B m.length d] w fun e w' => e = .returned (.bool (decide (l = m))) ∧ Below w.heap.size w w' := by
  have H := PRd.maquettelaw16_SameRecords.calls (l.length + 1) A c (l.map to45) B d (m.map to84) _ w (by rw [List.length_map]; exact C_iso_mk (f := fun x : PRd.S45 => (x.f0, x.f1)) (by rw [map45]; exact h)) (by rw [List.length_map]; exact hc) (by rw [List.length_map]; exact C_iso_mk (f := fun x : PRd.S84 => (x.f0, x.f1)) (by rw [map84]; exact h2)) (by rw [List.length_map]; exact hd) (same_f l m hl (l.length + 1) (by omega))
  rw [List.length_map, List.length_map] at H
  exact H
end Go.Proofs.Ytpeeojbhfebcdaa.V
end
section
namespace Go.Proofs.Ytpeeojbhfebcdaa.V
open Go.RowKit Go.Proofs.YtpeeojbhfebcdaaW.PrintWords Go.Proofs.YtpeeojbhfebcdaaW.PrintLast Go.Proofs.YtpeeojbhfebcdaaW.PrintMore Go.Proofs.YtpeeojbhfebcdaaM
set_option linter.unusedVariables false
set_option linter.unusedSimpArgs false
set_option maxHeartbeats 8000000 in
set_option maxRecDepth 100000 in
theorem read_any {w : World} {L : Value} {ld : Ld} (HL : LdOk w L ld) (hs : LdSmall ld) (root : Int) (hr : wfI root) :
    Calls Try.prog 23 #[.int .i64 root, L] w fun e w' => ReadR w.heap.size (fRead ld root) e w' ∧ Below w.heap.size w w' := by
  have HLD := Aside0.mk HL
  have HSM := Aside0.mk hs
  obtain ⟨fk, bs, cs, hL, _⟩ := HL
  have hP := fun {w' g m v S} (h : IsFind w w' g m L v S) => page_any HLD.out h root hr
  have HP := Aside0.mk (fun (w' : World) (g m : Nat) (v : Value) (S : FS) (h : IsFind w w' g m L v S) => page_any HLD.out h root hr)
  obtain ⟨b, hb⟩ : ∃ b, b = (fPage ld fS0 root).1 := ⟨_, rfl⟩
  obtain ⟨S1, hS1⟩ : ∃ S1, S1 = (fPage ld fS0 root).2 := ⟨_, rfl⟩
  have hO1 := (fPage_ok hs fS0_ok root).1
  have ho1 := fPage_out ld fS0 root
  have hidx : fIdx ld root = if (slotsE b).2 = true then S1 else fForm S1 := by unfold fIdx; rw [← hb, ← hS1]
  have hrd : fRead ld root = fSlots ld (slotsE b).1 (fIdx ld root) := by unfold fRead; rw [← hb]
  have hP0 := Aside0.mk (fun (w' : World) (g m : Nat) (v : Value) (h : IsFind w w' g m L v fS0) => (show Calls Try.prog 44 #[.pointer (some ⟨g, 0, none⟩), .int .i64 root] w' fun e w'' => e = .returned (.string b) ∧ IsFind w w'' g m L v S1 ∧ Kq w' w'' g m from by rw [hb, hS1]; exact page_any HLD.out h root hr))
  have hC := fun W => slots_any b W
  have hok := slotsE_ok b
  obtain ⟨sl, hsl⟩ : ∃ sl, sl = (slotsE b).1 := ⟨_, rfl⟩
  obtain ⟨is, his⟩ : ∃ is, is = (slotsE b).2 := ⟨_, rfl⟩
  rw [← hsl, ← his] at hC
  rw [← hsl] at hok hrd
  rw [← his] at hidx
  rw [← hS1] at hO1 ho1
  obtain ⟨S2, hS2⟩ : ∃ S2, S2 = fIdx ld root := ⟨_, rfl⟩
  have hO2 : FOk S2 := by rw [hS2, hidx]; split; exact hO1; exact fForm_ok hO1
  have ho2 : S2.out = [] := by rw [hS2, hidx]; split; exact ho1; exact (fForm_out _).trans ho1
  rw [← hS2] at hidx hrd
  obtain ⟨R, hR⟩ : ∃ R, R = fRead ld root := ⟨_, rfl⟩
  rw [← hR] at hrd ⊢
  have HC := Aside0.mk hC
  have HOK := Aside0.mk hok
  have HPG := Aside0.mk (show PgR root R from by rw [hR]; exact fRead_pg hs root)
  have HID := Aside0.mk hidx
  have HRD := Aside0.mk hrd
  have HO2 := Aside0.mk (And.intro hO2 ho2)
  clear hs hr hP HP hb hS1 hO1 ho1 hidx hrd hC hok hsl his hS2 hO2 ho2 hR
  subst hL
  have hq : ∀ W, (binOp BinOp.eql 55 (Value.func (Fn.func fk) bs cs) Value.nilFunc).run Try.prog W = .ok (.bool false) W := fun W => by first | kernel_rfl | rfl
  have hmm := @run_makeMap Try.prog
  go_enter Try.func23, Try.ntmps23
  go_upto_region 4 with (fail)
  clear hmm hq
  have HB0 := Aside0.mk (Below.refl w.heap.size w)
  have HF0 := Aside0.mk (show IsFind w ((w.alloc (Obj.map #[] 0)).alloc (Obj.cells #[Value.func (Fn.func fk) bs cs, Value.map (some w.heap.size), Value.slice none 0 0, Value.int IntKind.i64 0] 104)) (w.heap.size + 1) w.heap.size (.func (.func fk) bs cs) (.slice none 0 0) fS0 from
    ⟨by
      have h1 := (MapKept.heap_alloc (w.alloc (Obj.map #[] 0)) (Obj.cells #[Value.func (Fn.func fk) bs cs, Value.map (some w.heap.size), Value.slice none 0 0, Value.int IntKind.i64 0] 104)).1
      rw [World.size_alloc] at h1
      exact h1, Nat.le_succ _, Nat.le_refl _, (IsMapB.made w).at ((below_alloc (Below.refl _ _) _).block _ (IsMapB.made (eK := Value.int .i64) (eV := Value.string) (wf := wfI) w).lt), Kd.R_nil _ _ _ _ _, below_alloc (below_alloc HB0.out _) _⟩)
  obtain ⟨w1, hw1⟩ : ∃ w1, w1 = ((w.alloc (Obj.map #[] 0)).alloc (Obj.cells #[Value.func (Fn.func fk) bs cs, Value.map (some w.heap.size), Value.slice none 0 0, Value.int IntKind.i64 0] 104)) := ⟨_, rfl⟩
  rw [← hw1] at HF0 ⊢
  obtain ⟨m, hm⟩ : ∃ m, m = w.heap.size := ⟨_, rfl⟩
  obtain ⟨g, hg⟩ : ∃ g, g = w.heap.size + 1 := ⟨_, rfl⟩
  rw [← hg, ← hm] at HF0
  rw [← hg] at ⊢
  clear hw1 hg hm HB0
  go_upto_region 5 with (first
    | (go_at_call 44; (with_reducible refine (hP0.out _ _ _ _ HF0.out).mono ?_); rintro e w2 ⟨rfl, hf1, hk1⟩; have HF1 := Aside0.mk hf1; clear hf1 hk1 HF0)
    | (go_at_call 43; (with_reducible refine (HC.out _).mono ?_); rintro e w3 ⟨u0, rfl, hR3, hb3⟩; have HR3 := Aside0.mk (Kd.R_lower hR3 HF1.out.2.2.2.2.2.size); have HF3 := Aside0.mk (HF1.out.step hb3); clear hR3 hb3 HF1))
  obtain ⟨n, hn⟩ : ∃ n, n = sl.length := ⟨_, rfl⟩
  have HN := Aside0.mk hn
  obtain ⟨A, c, hu0⟩ := Kd.R_slice HR3.out
  rw [← hn] at hu0
  subst hu0
  have hlen := HOK.out.1
  rw [← hn] at hlen
  clear hn hP0 HC
  go_upto_if 29 with (fail)
  go_cut [7] (fun v7 wx => v7 = .pointer (some ⟨g, 0, none⟩) ∧ Aside0 (IsFind w wx g m (.func (.func fk) bs cs) (.slice none 0 0) S2) ∧ Aside0 (kS.R 76 wx w.heap.size (fun _ => True) (.slice A n c) sl))
  case first =>
    have hid := HID.out
    cases is
    case false =>
      rw [if_neg (by decide)] at hid
      subst hid
      go_wp2_with (go_at_call 45; (with_reducible refine (form_any HF3.out).mono ?_); rintro e w4 ⟨rfl, hf3, hk3⟩; have HF4 := Aside0.mk hf3; have HR4 := Aside0.mk ((hk3.kf HF3.out.2.2.2.1).R HF3.out.1 HR3.out T76); clear hf3 hk3)
      go_meet
      exact ⟨rfl, HF4, HR4⟩
    case true =>
      rw [if_pos rfl] at hid
      subst hid
      go_wp2_with (fail)
      go_meet
      exact ⟨rfl, HF3, HR3⟩
  case rest =>
    obtain ⟨rfl, HF4, HR4⟩ := hcut
    clear HF3 HR3 HID
    go_wp2_with (fail)
    go_loopg [34] n (fun kq v34 w' => ∃ (i : Nat) (v' : Value) (S' : FS), v34 = .int .i64 i ∧ Aside0 (i + kq = n) ∧ Aside0 (FOk S') ∧ Aside0 (S'.out.length ≤ 128 * i) ∧ Aside0 (R = fSlots ld (sl.drop i) S') ∧ Aside0 (kS.R 76 w' w.heap.size (fun _ => True) (.slice A n c) sl) ∧ Aside0 (IsFind w w' g m (.func (.func fk) bs cs) v' S'))
    case atStart => exact ⟨0, _, _, rfl, ⟨by omega⟩, ⟨HO2.out.1⟩, ⟨by rw [HO2.out.2]; exact Nat.zero_le _⟩, HRD, HR4, HF4⟩
    case round =>
      clear HRD HR4 HF4 HO2
      obtain ⟨i, v', S', rfl, HI, HO, HL, HRR, HR4, HF4⟩ := hrel
      cases gk with
      | succ gk =>
        have hi : i < n := by have := HI.out; omega
        have d1 : decide ((i : Int) < (n : Int)) = true := decide_eq_true (by omega)
        have d2 : decide (i < n) = true := decide_eq_true hi
        have d3 : (i < n) = True := eq_true hi
        have d4 : ((i : Int) < (n : Int)) = True := eq_true (by omega)
        have d5 : (0 ≤ (i : Int)) = True := eq_true (by omega)
        have hil : i < sl.length := by have := HN.out; omega
        have hdr : sl.drop i = atS sl i :: sl.drop (i + 1) := by
          rw [List.drop_eq_getElem_cons hil]
          congr 1
          unfold atS
          rw [List.getD_eq_getElem?_getD, List.getElem?_eq_getElem hil]; rfl
        obtain ⟨ad, ea, x0, x1⟩ := at_S (Kd.R_reads' HR4.out).2.2 i (by have := (Kd.R_reads' HR4.out).1; omega)
        have hgood := HOK.out.2 (atS sl i) (by
          unfold atS
          rw [List.getD_eq_getElem?_getD, List.getElem?_eq_getElem hil]
          exact List.getElem_mem hil)
        have hR := HRR.out
        rw [hdr] at hR
        obtain ⟨⟨kk, pp⟩, hx⟩ : ∃ x, x = atS sl i := ⟨_, rfl⟩
        rw [← hx] at x0 x1 hgood hR
        have HG := Aside0.mk hgood
        have HR1 := Aside0.mk hR
        subst ea
        clear hgood hR hx hdr hil HRR
        simp only [] at x0 x1
        go_upto_region 10 with (fail)
        obtain ⟨w4, hw4⟩ : ∃ w4, w4 = wr.alloc (.cells #[.int .i64 kk, .int .i64 pp] 76) := ⟨_, rfl⟩
        have HBA := Aside0.mk (below_alloc (Below.refl wr.heap.size wr) (.cells #[.int .i64 kk, .int .i64 pp] 76))
        rw [← hw4] at HBA ⊢
        have HX4 := Aside0.mk (show w4.heap[wr.heap.size]? = some (.cells #[.int .i64 kk, .int .i64 pp] 76 (0, 0)) from by rw [hw4]; exact (MapKept.heap_alloc wr _).1)
        have HF5 := Aside0.mk (HF4.out.step HBA.out)
        have HR5 := Aside0.mk (Kd.R_below HR4.out HBA.out)
        obtain ⟨q, hq⟩ : ∃ q, q = wr.heap.size := ⟨_, rfl⟩
        rw [← hq] at HX4 ⊢
        clear hw4 x0 x1 HF4 HR4 hq HBA
        have y0 : w4.cell? ⟨q, 0, none⟩ = some (.int .i64 kk) := (blk_cell HX4.out 0).trans rfl
        have y1 : w4.cell? ⟨q, 1, none⟩ = some (.int .i64 pp) := (blk_cell HX4.out 1).trans rfl
        obtain ⟨c0, c1, c2, c3⟩ := cell104 HF5.out.1
        have hR1 := HR1.out
        by_cases he : S'.e = 0
        · have e1 : (S'.e == 0) = true := by simpa using he
          rw [show fSlots ld ((kk, pp) :: sl.drop (i + 1)) S' = fSlots ld (sl.drop (i + 1)) (fLeaf ld S' (kk, pp)) from by show fSlots ld _ (if S'.e = 0 then _ else _) = _; rw [if_pos he]] at hR1
          have HR2 := Aside0.mk hR1
          have hl6 : S'.out.length ≤ 100000 := by have := HL.out; omega
          have HLF := Aside0.mk (fleaf_any HLD.out HSM.out HF5.out HO.out hl6 kk pp HG.out)
          have HO6 := Aside0.mk (And.intro (fLeaf_ok HSM.out HO.out (kk, pp)) (show (fLeaf ld S' (kk, pp)).out.length ≤ 128 * (i + 1) from by have h1 := fLeaf_len ld S' (kk, pp); have h2 := HL.out; omega))
          clear he hR1 HR1 hl6
          go_wp2_with (fail)
          with_reducible refine (HLF.out).mono ?_
          rintro e w6 ⟨rfl, ⟨v6, hf6⟩, hk6⟩
          have HF6 := Aside0.mk hf6
          have HR6 := Aside0.mk (hk6.R HF5.out.1 HR5.out T76)
          clear hf6 hk6
          go_wp2_with (fail)
          go_roundg gk
          case measure => omega
          case rel => exact ⟨i + 1, _, _, by first | rfl | go_num, ⟨by have := HI.out; omega⟩, ⟨HO6.out.1⟩, ⟨HO6.out.2⟩, HR2, HR6, HF6⟩
        · have e1 : (S'.e == 0) = false := by simpa using he
          rw [show fSlots ld ((kk, pp) :: sl.drop (i + 1)) S' = fSlots ld (sl.drop (i + 1)) S' from by show fSlots ld _ (if S'.e = 0 then _ else _) = _; rw [if_neg he]] at hR1
          have HR2 := Aside0.mk hR1
          clear he hR1 HR1
          go_wp2_with (fail)
          go_roundg gk
          case measure => omega
          case rel => exact ⟨i + 1, _, _, by first | rfl | go_num, ⟨by have := HI.out; omega⟩, HO, ⟨by have := HL.out; omega⟩, HR2, HR5, HF5⟩
      | zero =>
        have hi : i = n := by have := HI.out; omega
        subst hi
        have d1 : decide ((i : Int) < (i : Int)) = false := decide_eq_false (by omega)
        have d2 : decide (i < i) = false := decide_eq_false (by omega)
        have hR := HRR.out
        rw [List.drop_of_length_le (by have := HN.out; omega)] at hR
        change R = S' at hR
        subst hR
        clear HRR HL HI HR4
        go_upto_region 13 with (fail)
        obtain ⟨k1, k2, k3, k4, k5, k6⟩ := HF4.out
        have K1 := Aside0.mk k1
        have K4 := Aside0.mk k4
        have K5 := Aside0.mk k5
        have K6 := Aside0.mk k6
        have K23 := Aside0.mk (And.intro k2 k3)
        obtain ⟨c0, c1, c2, c3⟩ := cell104 k1
        clear k1 k2 k3 k4 k5 k6 d1 d2
        by_cases he : R.e = 0
        · have e1 : (R.e != 0) = false := by simpa using he
          have HE := Aside0.mk he
          clear he
          go_wp2_with (at_range; go_must (refine wpList_range_b keysI rfl (.tmp 59) 95 rfl 9 Try.underlying95 rfl K4.out ?_); intro w5 cnt hrg hg5 hs5; have HRG := Aside0.mk hrg; have H5 := Aside0.mk hg5; have HS5 := Aside0.mk hs5; clear hrg hg5 hs5)
          go_frame
          obtain ⟨r, hr⟩ : ∃ r, r = wr.heap.size := ⟨_, rfl⟩
          rw [← hr] at HRG ⊢
          have G5 := Aside0.mk ((H5.out.block g (blk_lt K1.out) (by simp)).trans K1.out)
          have Q5 := Aside0.mk (Kd.R_grown K5.out H5.out (fun k _ => by simp))
          have B5 := Aside0.mk (pw_below_grown K6.out _ K6.out.size H5.out (by rintro k e; cases e))
          have HWR := Aside0.mk (show w.heap.size ≤ r from by rw [hr]; exact K6.out.size)
          clear hr HF4 K1 K5 K6 c0 c1 c2 c3 H5 HS5 e1
          go_loopg [12, 13, 14] cnt (fun kq v12 v13 v14 w' => ∃ (left : Int → Prop) (cn : Nat) (ys : List R2), Aside0 (cn ≤ kq) ∧ Aside0 (RngB (Value.int .i64) Value.string wfI w' m r R.pages left cn) ∧ Aside0 (kR.R 28 w' w.heap.size (fun _ => True) v12 ys) ∧ Aside0 (ys = [] → v12 = .slice none 0 0) ∧ Aside0 (ys.Pairwise fun p q => p.1 ≠ q.1) ∧ Aside0 (∀ a b, (a, b) ∈ ys ↔ (R.pages a = some b ∧ ¬ left a)) ∧ Aside0 (w'.heap[g]? = some (.cells #[Value.func (Fn.func fk) bs cs, .map (some m), v', .int .i64 R.e] 104 (0, 0))) ∧ Aside0 (kR.R 45 w' w.heap.size (fun _ => True) v' R.out) ∧ Aside0 (Below w.heap.size w w'))
          case atStart => exact ⟨_, _, [], ⟨Nat.le_refl _⟩, HRG, ⟨Kd.R_nil _ _ _ _ _⟩, ⟨fun _ => rfl⟩, ⟨List.Pairwise.nil⟩, ⟨fun a b => ⟨fun h => (List.not_mem_nil h).elim, fun h => absurd (by rw [h.1]; exact Option.some_ne_none _) h.2⟩⟩, G5, Q5, B5⟩
          case round =>
            clear HRG G5 Q5 B5 K4
            obtain ⟨left, cn, ys, HCN, HRG, HY, HNIL, HPW, HME, G5, Q5, B5⟩ := hrel
            go_wp2_with (at_next; refine wpList_next_b keysI rfl (.tmp 60) rfl rfl HRG.out ?_ ?_)
            case refine_1 =>
              intro _ hl
              have hl2 : ys.length ≤ 1000000 := by
                have := few_pages HPG.out HPW.out (fun x hx => ((HME.out x.1 x.2).1 hx).1)
                omega
              have HSW := Aside0.mk (sort_writes HY.out HNIL.out hl2)
              have HNL := Aside0.mk hl
              clear hl hl2
              go_wp2_with (fail)
              with_reducible refine (HSW.out).mono ?_
              rintro e w6 ⟨rfl, ys2, hp2, hs2, hR6, hg6⟩
              have HP2 := Aside0.mk hp2
              have HS2 := Aside0.mk hs2
              have HR6 := Aside0.mk hR6
              have HG6 := Aside0.mk hg6
              have K6 := Aside0.mk ((hg6.block g (blk_lt G5.out) (Kd.R_ne HY.out G5.out (by decide))).trans G5.out)
              have c2 := (cell104 K6.out).2.2.1
              clear hp2 hs2 hR6 hg6
              go_wp2_with (fail)
              go_ret3
              refine ⟨⟨v', u12, ys2, by rw [HE.out]; rfl, by rw [if_pos HE.out]; exact Kd.R_over Q5.out HY.out (by intro q hq; simp [kR, Kd.pair, Kd.int, Kd.string, Kd.scalar] at hq; omega) HG6.out, HR6.out, fun _ => ⟨?_, fun a b => ?_⟩, fun h => absurd HE.out h⟩, pw_below_grown B5.out _ B5.out.size HG6.out (fun k hk => Kd.R_base HY.out k hk)⟩
              · have h1 : ys2.Pairwise fun p q => p.1 ≠ q.1 := (HP2.out.pairwise_iff (fun h e => h e.symm)).2 HPW.out
                exact (h1.and HS2.out).imp (fun h => by have := h.1; have := h.2; omega)
              · rw [HP2.out.mem_iff, HME.out]
                exact ⟨fun h => h.1, fun h => ⟨h, HNL.out a⟩⟩
            case refine_2 =>
              intro n2 s2 w2 cnt2 hln hpg2 hrg2 hlt2 hg2 hs2 hen
              clear hs2
              have HLN := Aside0.mk hln
              have HPG2 := Aside0.mk hpg2
              have HRG2 := Aside0.mk hrg2
              have HLT := Aside0.mk hlt2
              have G2 := Aside0.mk ((hg2.block g (blk_lt G5.out) (iter_ne HRG.out G5.out)).trans G5.out)
              have Q2 := Aside0.mk (R_iter Q5.out HRG.out hg2)
              have HY2 := Aside0.mk (R_iter HY.out HRG.out hg2)
              have B2 := Aside0.mk (pw_below_grown B5.out _ B5.out.size hg2 (by rintro k e; injection e with e; rw [← e]; exact HWR.out))
              have hl2 : ys.length ≤ 201 := few_pages HPG.out HPW.out (fun x hx => ((HME.out x.1 x.2).1 hx).1)
              clear hln hpg2 hrg2 hlt2 hg2 HRG HY Q5 G5 B5
              cases gk with
              | zero => have := HLT.out; have := HCN.out; omega
              | succ gk =>
                go_wp2_with (first | ((with_reducible refine gate_builtin (b := .append) (xs := #[.tmp 66, .tmp 70]) rfl ?_); at_builtin; go_must (refine Kd.R_append kR w.heap.size rfl (.tmp 66) (.tmp 70) 23 28 (.agg #[(.int .i64 0), (.string ⟨#[]⟩)]) 24 rfl Try.underlying23 info28 rfl (by decide) (by omega) u12 ys (n2, s2) [.int .i64 n2, .string s2] (fun _ => True) (fun _ => False) rfl rfl (kR_mkM _ _ _ (n2, s2)) (fun _ hk => hk.elim) (fun _ _ => trivial) HY2.out B2.out B2.out.size (by omega) ?_); intro v3 w3 ho_ hb_ hg_ hat_; have R3 := Aside0.mk ho_; have B3 := Aside0.mk hb_; have G3 := Aside0.mk hg_; clear ho_ hb_ hg_ hat_))
                go_roundg gk
                case measure => omega
                case rel =>
                  obtain ⟨i1, i2⟩ := iter_ne_row HY2.out HRG2.out
                  refine ⟨_, cnt2, ys ++ [(n2, s2)], ⟨by have := HLT.out; have := HCN.out; omega⟩, ⟨HRG2.out.kept G3.out i2 i1⟩, R3, ⟨fun h => absurd h (by simp)⟩, ⟨?_⟩, ⟨fun a b => ?_⟩, ⟨(G3.out.block g (blk_lt G2.out) (Kd.R_ne HY2.out G2.out (by decide))).trans G2.out⟩, ⟨Kd.R_over Q2.out HY2.out (by intro q hq; simp [kR, Kd.pair, Kd.int, Kd.string, Kd.scalar] at hq; omega) G3.out⟩, B3⟩
                  · rw [List.pairwise_append]
                    refine ⟨HPW.out, List.pairwise_singleton _ _, fun x hx y hy => ?_⟩
                    rw [List.mem_singleton] at hy
                    subst hy
                    intro e
                    have := ((HME.out x.1 x.2).1 hx).2
                    rw [e] at this
                    exact this HLN.out
                  · rw [List.mem_append, List.mem_singleton, HME.out]
                    constructor
                    · rintro (⟨h1, h2⟩ | h)
                      · exact ⟨h1, fun h => h2 h.1⟩
                      · injection h with h1 h2
                        subst h1 h2
                        exact ⟨HPG2.out, fun h => h.2 rfl⟩
                    · rintro ⟨h1, h2⟩
                      by_cases e : a = n2
                      · subst e
                        refine .inr ?_
                        have := HPG2.out
                        rw [h1] at this
                        injection this with this
                        rw [this]
                      · exact .inl ⟨h1, fun h => h2 ⟨h, e⟩⟩
        · have e1 : (R.e != 0) = true := by simpa using he
          have HE := Aside0.mk he
          clear he
          go_wp2_with (fail)
          go_quiet (fail)
          all_goals
            go_wp2
            go_ret3
            exact ⟨⟨_, _, [], rfl, by rw [if_neg HE.out]; exact Kd.R_nil _ _ _ _ _, Kd.R_nil _ _ _ _ _, fun h => absurd h HE.out, fun _ => rfl⟩, by repeat (first | (with_reducible first | exact K6.out | apply below_alloc | apply pw_below_drewN | apply below_drew1) | exact K6.out)⟩
end Go.Proofs.Ytpeeojbhfebcdaa.V
end
section
namespace Go.Proofs.Ytpeeojbhfebcdaa.V
open Go.RowKit Go.Proofs.YtpeeojbhfebcdaaW.PrintWords Go.Proofs.YtpeeojbhfebcdaaW.PrintLast Go.Proofs.YtpeeojbhfebcdaaW.PrintMore Go.Proofs.YtpeeojbhfebcdaaM
open Go.Proofs.Ytpeeojbhfebcdaa.PAll (S45 k45 maquettelaw16_Few.calls maquettelaw16_alive.calls)
set_option linter.unusedVariables false
set_option linter.unusedSimpArgs false
theorem R_others {α : Type} {d : Kd α} {e base : Nat} {w w1 : World} {ok : Nat → Prop} {v : Value} {xs : List α} (h : d.R e w base ok v xs) (ho : VP.Others w w1) (ht : ∀ q, q ∈ e :: d.E → q ≠ 98 ∧ q ≠ 9 ∧ q ≠ 101) : d.R e w1 base ok v xs :=
  Kd.R_mono (Kd.R_move (Kd.R_bound h) (fun k hk => by
    obtain ⟨_, _, _, q, hq, cells, hc⟩ := hk
    obtain ⟨t1, t2, t3⟩ := ht q hq
    rw [ho k cells q hc t1 t2 t3, hc])) (fun _ hk => hk.1)
theorem T28o : ∀ q, q ∈ 28 :: kR.E → q ≠ 98 ∧ q ≠ 9 ∧ q ≠ 101 := by intro q hq; simp [kR, Kd.pair, Kd.int, Kd.string, Kd.scalar] at hq; omega
theorem T3o : ∀ q, q ∈ 3 :: (Kd.int .i64).E → q ≠ 98 ∧ q ≠ 9 ∧ q ≠ 101 := by intro q hq; simp [Kd.int, Kd.scalar] at hq; omega
theorem ldOk_plat {w0 W : World} {g k : Nat} {S : VP.PS} (h : VP.IsQ w0 W g S) : LdOk W (.func (.func 24) #[.pointer (some ⟨g, 0, none⟩)] #[]) (ldP S) :=
  ⟨24, _, _, rfl, enters_of Try.func24 (by kernel_rfl) rfl, fun W' n hn hb => VP.load_any (h.below hb).2 n hn⟩
theorem read_good {W : World} {w0 : World} {g : Nat} {S : VP.PS} (h : VP.IsQ w0 W g S) (hs : LdSmall (ldP S)) {root : Int} (hr : wfI root) {l : List R2} (h1 : (fRead (ldP S) root).e = 0) (h2 : (fRead (ldP S) root).out = l) :
    Calls Try.prog 23 #[.int .i64 root, .func (.func 24) #[.pointer (some ⟨g, 0, none⟩)] #[]] W fun e w' => ∃ v u ys, e = .returned (.tuple #[v, u, .int .i64 0]) ∧ kR.R 45 w' W.heap.size (fun _ => True) v l ∧ kR.R 28 w' W.heap.size (fun _ => True) u ys ∧ PagesOf (fRead (ldP S) root) ys ∧ Below W.heap.size W w' := by
  refine (read_any (ldOk_plat (k := 0) h) hs root hr).mono ?_
  rintro e w' ⟨⟨v, u, ys, rfl, hv, hu, hp, _⟩, hb⟩
  rw [if_pos h1, h2] at hv
  exact ⟨v, u, ys, by rw [h1], hv, hu, hp h1, hb⟩
theorem plan_root {l hv : List R2} {fr : List Int} : wfI (planE l hv fr).2.1 := by
  by_cases h : (planE l hv fr).2.2 = 0
  · obtain ⟨h1, h2, h3, h4, h5⟩ := planE_ok h
    rw [h5]
    obtain ⟨pv, pf⟩ := mayE_pg h2
    have hpg : PgOk (planT l hv fr).2 := (slotsF_ok2 _ (chainsF_ok2 l (S := ⟨knF hv, fr, [], 0⟩) ⟨⟨knF_pg (fun x hx => pv _ (List.mem_map_of_mem hx)), pf⟩, fun x hx => (List.not_mem_nil hx).elim⟩)).1
    have := PRd.okP_range (putN_pg hpg _ _ h4)
    exact (show wfI (planZ l hv fr).1 from wfI_small (by have := this.1; show -9223372036854775808 ≤ putN _ _ _; omega) (by show putN _ _ _ ≤ 9223372036854775807; omega))
  · rw [(planE_no h).2]; exact wfI_small (by decide) (by decide)
set_option maxHeartbeats 16000000 in
set_option maxRecDepth 100000 in
theorem back_any (w : World) (A : Option Addr) (c : Nat) (l : List S45) (B : Option Addr) (d : Nat) (m : List S45) (hr : Kd.C k45 w A l.length l) (hc : l.length ≤ c) (hr2 : Kd.C k45 w B m.length m) (hd : m.length ≤ d) :
    Calls Try.prog 9 #[.slice A l.length c, .slice B m.length d] w fun e w' => e = .returned (.bool true) ∧ Below w.heap.size w w' := by
  obtain ⟨fw, hf, hfw⟩ := few_f l hr.2.1 (l.length + 1) (by omega)
  obtain ⟨fx, hf2, hfx⟩ := few_f m hr2.2.1 (m.length + 1) (by omega)
  have HF := Aside0.mk (maquettelaw16_Few.calls (l.length + 1) A c l fw w hr hc hf)
  have HF2 := Aside0.mk (fun (W : World) (hb : Below w.heap.size w W) => maquettelaw16_Few.calls (m.length + 1) B d m fx W (Kd.C_below hr2 hb) hd hf2)
  have HAL := Aside0.mk (fun W => maquettelaw16_alive.calls 200 true W (alive_f 200 (Nat.le_refl _)))
  have hn63 : l.length ≤ 9223372036854775807 := hr.2.1
  have hm63 : m.length ≤ 9223372036854775807 := hr2.2.1
  clear hf hf2
  cases fw with
  | false =>
    obtain ⟨n, hn⟩ : ∃ n, n = l.length := ⟨_, rfl⟩
    obtain ⟨n2, hn2⟩ : ∃ n, n = m.length := ⟨_, rfl⟩
    rw [← hn] at HF ⊢
    rw [← hn2] at ⊢
    clear hfw hfx hr hc hr2 hd hn hn2 hn63 hm63 HF2
    go_enter Try.func9, Try.ntmps9
    go_wp2_with (fail)
    with_reducible refine (HF.out).mono ?_
    rintro e w1 ⟨rfl, hb1⟩
    have HB1 := Aside0.mk hb1.below
    clear hb1
    go_wp2_with (fail)
    with_reducible refine (HAL.out _).mono ?_
    rintro e w2 ⟨rfl, hb2⟩
    have HB2 := Aside0.mk (below_step HB1.out hb2)
    clear hb2
    go_wp2_with (fail)
    go_ret
    exact ⟨rfl, HB2.out⟩
  | true =>
    have hl := hfw rfl
    cases fx with
    | false =>
      obtain ⟨n, hn⟩ : ∃ n, n = l.length := ⟨_, rfl⟩
      obtain ⟨n2, hn2⟩ : ∃ n, n = m.length := ⟨_, rfl⟩
      rw [← hn] at HF ⊢
      rw [← hn2] at HF2 ⊢
      clear hfw hfx hr hc hr2 hd hn hn2 hn63 hm63 hl
      go_enter Try.func9, Try.ntmps9
      go_wp2_with (fail)
      with_reducible refine (HF.out).mono ?_
      rintro e w1 ⟨rfl, hb1⟩
      have HB1 := Aside0.mk hb1.below
      clear hb1
      go_wp2_with (fail)
      with_reducible refine (HF2.out _ HB1.out).mono ?_
      rintro e w2 ⟨rfl, hb2⟩
      have HB2 := Aside0.mk (below_step HB1.out hb2.below)
      clear hb2
      go_wp2_with (fail)
      with_reducible refine (HAL.out _).mono ?_
      rintro e w3 ⟨rfl, hb3⟩
      have HB3 := Aside0.mk (below_step HB2.out hb3)
      clear hb3
      go_wp2_with (fail)
      go_ret
      exact ⟨rfl, HB3.out⟩
    | true =>
      have hm := hfx rfl
      obtain ⟨L, hL⟩ : ∃ L, L = tR l := ⟨_, rfl⟩
      obtain ⟨M, hM⟩ : ∃ M, M = tR m := ⟨_, rfl⟩
      have hCL : kR.C w A L.length L := by rw [hL, List.length_map]; exact C_iso hr
      have hCM : kR.C w B M.length M := by rw [hM, List.length_map]; exact C_iso hr2
      have hLl : L.length = l.length := by rw [hL, List.length_map]
      have hMl : M.length = m.length := by rw [hM, List.length_map]
      rw [← hLl] at hl hc HF ⊢
      rw [← hMl] at hm hd HF2 ⊢
      have HCL := Aside0.mk hCL
      have HCM := Aside0.mk hCM
      have HLM := Aside0.mk (And.intro (And.intro hl hc) (And.intro hm hd))
      obtain ⟨n, hn⟩ : ∃ n, n = L.length := ⟨_, rfl⟩
      obtain ⟨n2, hn2⟩ : ∃ n, n = M.length := ⟨_, rfl⟩
      have HN := Aside0.mk (And.intro hn hn2)
      obtain ⟨O1, hO1⟩ : ∃ O, O = (planE L [] (dn 198)).1 := ⟨_, rfl⟩
      obtain ⟨r1, hr1⟩ : ∃ O, O = (planE L [] (dn 198)).2.1 := ⟨_, rfl⟩
      obtain ⟨e1, he1⟩ : ∃ O, O = (planE L [] (dn 198)).2.2 := ⟨_, rfl⟩
      have hpl := fun (W : World) (hb : Below w.heap.size w W) (D : Option Addr) (f : Nat) (h3 : Kd.C (Kd.int .i64) W D (dn 198).length (dn 198)) (hf : (dn 198).length ≤ f) => plan_any W A c L none 0 [] D f (dn 198) (Kd.C_below hCL hb) (by omega) (by omega) (Kd.C_nil _ _) (Nat.le_refl _) (by simp) (by intro x hx; cases hx) h3 hf (by rw [dn_length]; omega)
      rw [← hO1, ← hr1, ← he1] at hpl
      simp only [List.length_nil, dn_length] at hpl
      rw [← hn] at hpl HF ⊢
      rw [← hn2] at HF2 ⊢
      have HPL := Aside0.mk hpl
      have HDEF := Aside0.mk (And.intro hO1 (And.intro hr1 he1))
      have hn9 : n ≤ 9223372036854775807 := by omega
      have hn29 : n2 ≤ 9223372036854775807 := by omega
      clear hfw hfx hr hr2 hn63 hm63 hL hM hCL hCM hLl hMl hl hc hm hd hn hn2 hO1 hr1 he1 hpl
      go_enter Try.func9, Try.ntmps9
      go_wp2_with (fail)
      with_reducible refine (HF.out).mono ?_
      rintro e w1 ⟨rfl, hb1⟩
      have HB1 := Aside0.mk hb1.below
      clear hb1
      go_wp2_with (fail)
      with_reducible refine (HF2.out _ HB1.out).mono ?_
      rintro e w2 ⟨rfl, hb2⟩
      have HB2 := Aside0.mk (below_step HB1.out hb2.below)
      clear hb2
      go_wp2_with (fail)
      with_reducible refine (HAL.out _).mono ?_
      rintro e w3 ⟨rfl, hb3⟩
      have HB := Aside0.mk (below_step HB2.out hb3)
      clear hb3 HB1 HB2 HF HF2 HAL
      go_wp2_with (fail)
      go_loopg [5, 6] 199 (fun kq v5 v6 w' => ∃ (i : Nat), v6 = .int .i64 (199 - (i : Int)) ∧ Aside0 (i ≤ 198 ∧ i + kq = 199) ∧ Aside0 (Kd.R (Kd.int .i64) 3 w' w.heap.size (fun _ => True) v5 (dn i)) ∧ Aside0 (Below w.heap.size w w'))
      case atStart => exact ⟨0, rfl, ⟨by decide⟩, ⟨Kd.R_nil _ _ _ _ _⟩, HB⟩
      case round =>
        clear HB
        obtain ⟨i, rfl, HI, HO, HB⟩ := hrel
        cases gk with
        | zero => have := HI.out; omega
        | succ k1 =>
          by_cases him : i < 198
          · have d1 : decide ((199 - (i : Int)) ≥ 2) = true := decide_eq_true (by omega)
            have d2 : decide (2 ≤ (199 - (i : Int))) = true := decide_eq_true (by omega)
            have hi2 := HI.out.1
            have q1 : IntKind.i64.wrap (199 - (i : Int) - 1) = 199 - ((i + 1 : Nat) : Int) := by rw [IntKind.wrap_i64]; omega
            go_wp2_with (first | ((with_reducible refine gate_builtin (b := .append) (xs := #[.tmp 46, .tmp 48]) rfl ?_); at_builtin; go_must (refine Kd.R_append (Kd.int .i64) w.heap.size rfl (.tmp 46) (.tmp 48) 24 3 (.int .i64 0) 8 rfl Try.underlying24 info3 rfl (by decide) (by omega) u5 (dn i) (199 - (i : Int)) [.int .i64 (199 - (i : Int))] (fun _ => True) (fun _ => False) rfl rfl rfl (fun _ hk => hk.elim) (fun _ _ => trivial) (by (with_reducible repeat (first | apply Kd.R_alloc | apply Kd.R_drewN | apply Kd.R_drew)); exact HO.out) (by repeat (first | (with_reducible first | exact HB.out | apply below_alloc | apply pw_below_drewN | apply below_drew1) | exact HB.out)) (below_size (by repeat (first | (with_reducible first | exact HB.out | apply below_alloc | apply pw_below_drewN | apply below_drew1) | exact HB.out))) (by rw [dn_length]; omega) ?_); intro v3 w3 ho_ hb_ hg_ hat_; rw [← dn_snoc] at ho_; clear HO HB; have HO := Aside0.mk ho_; have HB := Aside0.mk hb_; clear ho_ hb_ hg_ hat_))
            go_roundg k1
            case measure => omega
            case rel => exact ⟨i + 1, by first | rfl | (congr 1; omega), ⟨by have := HI.out; omega⟩, HO, HB⟩
          · have d1 : decide ((199 - (i : Int)) ≥ 2) = false := decide_eq_false (by have := HI.out; omega)
            have d2 : decide (2 ≤ (199 - (i : Int))) = false := decide_eq_false (by have := HI.out; omega)
            obtain rfl : i = 198 := by have := HI.out; omega
            clear him HI
            obtain ⟨Ao, co, eo⟩ := Kd.R_slice HO.out
            rw [dn_length] at eo
            subst eo
            have HPQ := Aside0.mk (HPL.out _ HB.out Ao co (by have := (Kd.R_reads' HO.out).2.2; rwa [dn_length] at this) (Kd.R_reads' HO.out).2.1)
            clear HPL
            go_wp2_with (fail)
            with_reducible refine (HPQ.out).mono ?_
            rintro e w4 ⟨v0, rfl, hR4, hb4⟩
            have HB4 := Aside0.mk (below_step HB.out hb4)
            have HO4 := Aside0.mk (Kd.R_below HO.out hb4)
            have HR4 := Aside0.mk (Kd.R_lower hR4 HB.out.size)
            clear hR4 hb4 HB HO HPQ d1 d2
            obtain ⟨hO1, hr1, he1⟩ := HDEF.out
            by_cases he : e1 = 0
            · subst he
              have hok : (planE L [] (dn 198)).2.2 = 0 := he1.symm
              have hbk := back1 hok (dn_nodup 198)
              have hO := planE_okO hok (dn_nodup 198)
              have hrt : wfI r1 := by rw [hr1]; exact plan_root
              have hlen := planE_len L [] (dn 198)
              rw [dn_length] at hlen
              rw [← hO1] at hbk hO hlen
              rw [← hr1] at hbk
              have HOK := Aside0.mk hok
              have HBK := Aside0.mk hbk
              have HOO := Aside0.mk hO
              have HRT := Aside0.mk hrt
              have HNEW := Aside0.mk (fun (W : World) => (show Calls Try.prog 21 #[.int .i64 200] W fun e w' => ∃ g, e = .returned (.pointer (some ⟨g, 0, none⟩)) ∧ VP.IsP W.heap.size (fun k => W.heap.size ≤ k) w' g (VP.newS 200) ∧ Below W.heap.size W w' from VP.new_any W 200 (by decide) (by decide)))
              obtain ⟨n1, hn1⟩ : ∃ n, n = O1.length := ⟨_, rfl⟩
              have HN1 := Aside0.mk hn1
              obtain ⟨A4, c4, e4⟩ := Kd.R_slice HR4.out
              rw [← hn1] at e4 hlen
              subst e4
              clear hok hbk hO hrt hn1 hO1 hr1 he1
              go_wp2_with (go_at_call 21; (with_reducible refine (HNEW.out _).mono ?_); rintro e w5 ⟨g, rfl, hi5, hb5⟩; have HQ5 := Aside0.mk (show VP.IsQ w w5 g (plat (O1.take 0)) from ⟨below_step HB4.out hb5, (hi5.lower HB4.out.size).mono (fun k hk => Nat.le_trans HB4.out.size hk)⟩); have HO5 := Aside0.mk (Kd.R_below HO4.out hb5); have HR5 := Aside0.mk (Kd.R_below HR4.out hb5); clear hi5 hb5 HO4 HR4 HB4 HNEW)
              go_loopg [71] n1 (fun kq v71 w' => ∃ (i : Nat), v71 = .int .i64 i ∧ Aside0 (i + kq = n1) ∧ Aside0 (VP.IsQ w w' g (plat (O1.take i))) ∧ Aside0 (Kd.R (Kd.int .i64) 3 w' w.heap.size (fun _ => True) (.slice Ao 198 co) (dn 198)) ∧ Aside0 (kR.R 28 w' w.heap.size (fun _ => True) (.slice A4 n1 c4) O1))
              case atStart => exact ⟨0, rfl, ⟨by omega⟩, HQ5, HO5, HR5⟩
              case round =>
                clear HQ5 HO5 HR5
                obtain ⟨i, rfl, HI, HQ5, HO5, HR5⟩ := hrel
                cases gk with
                | succ gk =>
                  have hi : i < n1 := by have := HI.out; omega
                  have d1 : decide ((i : Int) < (n1 : Int)) = true := decide_eq_true (by omega)
                  have d2 : decide (i < n1) = true := decide_eq_true hi
                  have d3 : (i < n1) = True := eq_true hi
                  have d4 : ((i : Int) < (n1 : Int)) = True := eq_true (by omega)
                  have d5 : (0 ≤ (i : Int)) = True := eq_true (by omega)
                  have hil : i < O1.length := by have := HN1.out; omega
                  have hat : atR O1 i = O1[i] := by unfold atR; rw [List.getD_eq_getElem?_getD, List.getElem?_eq_getElem hil]; rfl
                  obtain ⟨ad, ea, x0, x1⟩ := at_R (Kd.R_reads' HR5.out).2.2 i (by omega)
                  have hmem : O1[i] ∈ O1 := List.getElem_mem hil
                  have hgood := HOO.out.1 _ hmem
                  have hst : plat (O1.take (i + 1)) = VP.stS (plat (O1.take i)) O1[i].1 O1[i].2 := by
                    unfold plat
                    rw [List.take_succ_eq_append_getElem hil, stL_append]; rfl
                  have hwell := plat_well (l := O1.take i) ⟨fun x hx => HOO.out.1 x (List.mem_of_mem_take hx), HOO.out.2.sublist (List.take_sublist _ _)⟩
                  rw [List.length_take, Nat.min_eq_left (Nat.le_of_lt hil)] at hwell
                  rw [hat] at x0 x1
                  obtain ⟨pn, hpn⟩ : ∃ p, p = O1[i].1 := ⟨_, rfl⟩
                  obtain ⟨pb, hpb⟩ : ∃ p, p = O1[i].2 := ⟨_, rfl⟩
                  rw [← hpn] at x0 hgood hst
                  rw [← hpb] at x1 hgood hst
                  have hST := fun (W : World) (h : VP.IsQ w W g (plat (O1.take i))) => VP.q_st h hwell pn pb (by omega) (by have := hgood.1.2; exact this) hgood.2 (by omega) (by decide)
                  rw [← hst] at hST
                  have HST := Aside0.mk hST
                  subst ea
                  clear hat hil hmem hgood hst hwell hpn hpb hST
                  go_wp2_with (fail)
                  with_reducible refine (HST.out _ (HQ5.out.below (below_alloc (Below.refl _ _) _))).mono ?_
                  rintro e w6 ⟨rfl, hq6, ho6⟩
                  have HQ6 := Aside0.mk hq6
                  have HO6 := Aside0.mk (R_others (Kd.R_alloc HO5.out _) ho6 T3o)
                  have HR6 := Aside0.mk (R_others (Kd.R_alloc HR5.out _) ho6 T28o)
                  clear hq6 ho6 HQ5 HO5 HR5
                  go_wp2_with (fail)
                  go_roundg gk
                  case measure => omega
                  case rel => exact ⟨i + 1, by first | rfl | go_num, ⟨by have := HI.out; omega⟩, HQ6, HO6, HR6⟩
                | zero =>
                  have hi : i = n1 := by have := HI.out; omega
                  subst hi
                  have d1 : decide ((i : Int) < (i : Int)) = false := decide_eq_false (by omega)
                  have d2 : decide (i < i) = false := decide_eq_false (by omega)
                  have hq := HQ5.out
                  rw [List.take_of_length_le (by have := HN1.out; omega)] at hq
                  have HQ := Aside0.mk hq
                  clear hq HQ5 d1 d2 HI
                  have hsm := plat_small HOO.out
                  have HRD := Aside0.mk (read_good HQ.out hsm HRT.out HBK.out.1 HBK.out.2.1)
                  have hll := HLM.out.1.1
                  have HREC := Aside0.mk (fun (W : World) (hb : Below w.heap.size w W) => (show Calls Try.prog 14 #[.slice A n c] W fun e w' => ∃ v : Value, e = .returned v ∧ kR.R 84 w' W.heap.size (fun _ => True) v L ∧ Below W.heap.size W w' from by have := recs_any A c L W (Kd.C_below HCL.out hb) (by have := HLM.out.1.2; have := HN.out.1; omega) (by omega); rw [← HN.out.1] at this; exact this))
                  clear hsm
                  go_upto_region 20 with (fail)
                  go_wp2_with (fail)
                  with_reducible refine (HRD.out).mono ?_
                  rintro e w7 ⟨v, u, ys, rfl, hv7, hu7, hp7, hb7⟩
                  have HB7 := Aside0.mk (below_step HQ.out.1 hb7)
                  have HV7 := Aside0.mk (Kd.R_lower hv7 HQ.out.1.size)
                  have HU7 := Aside0.mk (Kd.R_lower hu7 HQ.out.1.size)
                  have HQ7 := Aside0.mk (HQ.out.below hb7)
                  have HO7 := Aside0.mk (Kd.R_below HO5.out hb7)
                  obtain ⟨hyl, hym⟩ := HBK.out.2.2 ys hp7
                  have HYM := Aside0.mk hym
                  have hyn : ys.length = i := by rw [hyl]; exact HN1.out.symm
                  have HYN := Aside0.mk hyn
                  obtain ⟨Av, cv, ev⟩ := Kd.R_slice HV7.out
                  obtain ⟨Au, cu, eu⟩ := Kd.R_slice HU7.out
                  rw [← HN.out.1] at ev
                  rw [hyn] at eu
                  subst ev eu
                  clear hv7 hu7 hp7 hb7 hyl hym hyn HRD HQ HO5 HR5 hll
                  go_wp2_with (fail)
                  with_reducible refine (HREC.out _ HB7.out).mono ?_
                  rintro e w8 ⟨vr, rfl, hr8, hb8⟩
                  have HB8 := Aside0.mk (below_step HB7.out hb8)
                  have HV8 := Aside0.mk (Kd.R_below HV7.out hb8)
                  have HU8 := Aside0.mk (Kd.R_below HU7.out hb8)
                  have HQ8 := Aside0.mk (HQ7.out.below hb8)
                  have HO8 := Aside0.mk (Kd.R_below HO7.out hb8)
                  have HR8 := Aside0.mk hr8
                  obtain ⟨Ar, cr, er⟩ := Kd.R_slice HR8.out
                  rw [← HN.out.1] at er
                  subst er
                  have hsame := same_any Av cv L Ar cr L w8 (Kd.R_reads' HV8.out).2.2 (by have := (Kd.R_reads' HV8.out).2.1; have := HN.out.1; omega) (by have := HLM.out.1.1; omega) (Kd.R_reads' HR8.out).2.2 (by have := (Kd.R_reads' HR8.out).2.1; have := HN.out.1; omega)
                  rw [← HN.out.1, decide_eq_true (rfl : L = L)] at hsame
                  have HSAME := Aside0.mk hsame
                  have k1 : decide (i > 198) = false := decide_eq_false (by omega)
                  have k2 : decide ((i : Int) > 198) = false := decide_eq_false (by omega)
                  clear hr8 hb8 hsame HB7 HV7 HU7 HQ7 HO7
                  go_wp2_with (fail)
                  with_reducible refine (HSAME.out).mono ?_
                  rintro e w9 ⟨rfl, hb9⟩
                  have HB9 := Aside0.mk (below_step HB8.out hb9)
                  have HU9 := Aside0.mk (Kd.R_below HU8.out hb9)
                  have HQ9 := Aside0.mk (HQ8.out.below hb9)
                  have HO9 := Aside0.mk (Kd.R_below HO8.out hb9)
                  clear hb9 HB8 HV8 HU8 HQ8 HO8 HR8 HSAME
                  obtain ⟨i3, hi3, hz3⟩ := Option.map_eq_some_iff.1 info3
                  have hsz3 : i3.size = 1 := by simp only [Prod.mk.injEq] at hz3; exact hz3.2.1
                  obtain ⟨Ad, hcut, hread, hcap⟩ := print_drop_of (P := Try.prog) (Value.int .i64) (0 : Int) 24 3 .i64 Try.underlying24 hi3 hsz3 Ao co (dn 198) (i : Int) (by omega) (by rw [dn_length]; omega) (by rw [dn_length]; have := (Kd.R_reads' HO9.out).2.1; exact this)
                  rw [Int.toNat_natCast, dn_length, List.length_drop, dn_length] at hcut
                  rw [Int.toNat_natCast] at hread hcap
                  have hC9 : (Kd.int .i64).C w9 Ad ((dn 198).drop i).length ((dn 198).drop i) := Kd.C_of_reads (hread w9 (by have := Kd.reads_of_C (d := (0 : Int)) (Kd.R_reads' HO9.out).2.2; rw [dn_length]; exact this))
                  obtain ⟨O2, hO2⟩ : ∃ O, O = (planE M ys ((dn 198).drop i)).1 := ⟨_, rfl⟩
                  obtain ⟨r2, hr2⟩ : ∃ O, O = (planE M ys ((dn 198).drop i)).2.1 := ⟨_, rfl⟩
                  obtain ⟨e2, he2⟩ : ∃ O, O = (planE M ys ((dn 198).drop i)).2.2 := ⟨_, rfl⟩
                  have hdl : ((dn 198).drop i).length = 198 - i := by rw [List.length_drop, dn_length]
                  have hpl2 := plan_any w9 B d M Au cu ys Ad (co - i) ((dn 198).drop i) (Kd.C_below HCM.out HB9.out) HLM.out.2.2 (by have := HLM.out.2.1; omega) (Kd.R_reads' HU9.out).2.2 (by have := (Kd.R_reads' HU9.out).2.1; have := HYN.out; omega) (by have := HYN.out; omega) (fun x hx => wfS_small (by rw [(HOO.out.1 x ((HYM.out x).1 hx)).2]; decide)) hC9 hcap (by rw [hdl]; omega)
                  rw [← hO2, ← hr2, ← he2, hdl, HYN.out, ← HN.out.2] at hpl2
                  have HPL2 := Aside0.mk hpl2
                  have HDF2 := Aside0.mk (And.intro hO2 (And.intro hr2 he2))
                  clear hi3 hz3 hsz3 hread hcap hC9 hO2 hr2 he2 hdl hpl2 k1 k2
                  go_wp2_with (fail)
                  with_reducible refine (HPL2.out).mono ?_
                  rintro e wa ⟨v2, rfl, hRa, hba⟩
                  have HBa := Aside0.mk (below_step HB9.out hba)
                  have HUa := Aside0.mk (Kd.R_below HU9.out hba)
                  have HQa := Aside0.mk (HQ9.out.below hba)
                  have HRa := Aside0.mk (Kd.R_lower hRa HB9.out.size)
                  clear hRa hba HB9 HU9 HQ9 HO9 HPL2 hcut
                  obtain ⟨hO2, hr2, he2⟩ := HDF2.out
                  by_cases he : e2 = 0
                  · subst he
                    have hok2 : (planE M ys ((dn 198).drop i)).2.2 = 0 := he2.symm
                    have hoth := plan_other hok2
                    have hrt2 : wfI r2 := by rw [hr2]; exact plan_root
                    have hi1 : i = (planE L [] (dn 198)).1.length := by rw [← HDEF.out.1]; exact HN1.out
                    have hlen2 := planE_len M ys ((dn 198).drop i)
                    rw [List.length_drop, dn_length] at hlen2
                    rw [hi1] at hok2
                    have hbk2 := back2 HOK.out (dn_nodup 198) (by rw [← HDEF.out.1]; exact HYM.out) hok2
                    rw [← hi1, ← HDEF.out.1, ← hO2, ← hr2, ← HDEF.out.2.1] at hbk2
                    rw [← hO2] at hoth hlen2
                    have HBK2 := Aside0.mk hbk2
                    have HOTH := Aside0.mk hoth
                    have HRT2 := Aside0.mk hrt2
                    obtain ⟨n3, hn3⟩ : ∃ n, n = O2.length := ⟨_, rfl⟩
                    have HN3 := Aside0.mk hn3
                    obtain ⟨A6, c6, e6⟩ := Kd.R_slice HRa.out
                    rw [← hn3] at e6 hlen2
                    subst e6
                    have HLEN := Aside0.mk hlen2
                    have hqa := HQa.out
                    rw [show O1 = O1 ++ O2.take 0 from (List.append_nil _).symm] at hqa
                    have HQb := Aside0.mk hqa
                    clear hqa HQa hok2 hoth hrt2 hi1 hbk2 hn3 hO2 hr2 he2 HDF2 hlen2
                    go_wp2_with (fail)
                    go_loopg [132] n3 (fun kq v132 w' => ∃ (j : Nat), v132 = .int .i64 j ∧ Aside0 (j + kq = n3) ∧ Aside0 (VP.IsQ w w' g (plat (O1 ++ O2.take j))) ∧ Aside0 (kR.R 28 w' w.heap.size (fun _ => True) (.slice A6 n3 c6) O2) ∧ Aside0 (kR.R 28 w' w.heap.size (fun _ => True) (.slice Au i cu) ys))
                    case atStart => exact ⟨0, rfl, ⟨by omega⟩, HQb, HRa, HUa⟩
                    case round =>
                      clear HQb HRa HUa HBa
                      obtain ⟨j, rfl, HJ, HQb, HRa, HUa⟩ := hrel
                      cases gk with
                      | succ gz =>
                        have hj : j < n3 := by have := HJ.out; omega
                        have hn3 : n3 ≤ 198 := by have := HLEN.out; omega
                        have d1 : decide ((j : Int) < (n3 : Int)) = true := decide_eq_true (by omega)
                        have d2 : decide (j < n3) = true := decide_eq_true hj
                        have d3 : (j < n3) = True := eq_true hj
                        have d4 : ((j : Int) < (n3 : Int)) = True := eq_true (by omega)
                        have d5 : (0 ≤ (j : Int)) = True := eq_true (by omega)
                        have hil : j < O2.length := by have := HN3.out; omega
                        have hat : atR O2 j = O2[j] := by unfold atR; rw [List.getD_eq_getElem?_getD, List.getElem?_eq_getElem hil]; rfl
                        obtain ⟨ad, ea, x0, x1⟩ := at_R (Kd.R_reads' HRa.out).2.2 j (by omega)
                        have hmem : O2[j] ∈ O2 := List.getElem_mem hil
                        have hgood := HBK2.out.1.1 _ (List.mem_append.2 (.inr hmem))
                        have hno := HOTH.out _ hmem
                        have hst : plat (O1 ++ O2.take (j + 1)) = VP.stS (plat (O1 ++ O2.take j)) O2[j].1 O2[j].2 := by
                          unfold plat
                          rw [List.take_succ_eq_append_getElem hil, ← List.append_assoc, stL_append _ (O1 ++ O2.take j)]; rfl
                        have hsub : (O1 ++ O2.take j).Sublist (O1 ++ O2) := List.Sublist.append_left (List.take_sublist _ _) _
                        have hwell := plat_well (l := O1 ++ O2.take j) ⟨fun x hx => HBK2.out.1.1 x (hsub.subset hx), HBK2.out.1.2.sublist hsub⟩
                        rw [List.length_append, List.length_take, Nat.min_eq_left (Nat.le_of_lt hil)] at hwell
                        rw [hat] at x0 x1
                        obtain ⟨pn, hpn⟩ : ∃ p, p = O2[j].1 := ⟨_, rfl⟩
                        obtain ⟨pb, hpb⟩ : ∃ p, p = O2[j].2 := ⟨_, rfl⟩
                        rw [← hpn] at x0 hgood hst hno
                        rw [← hpb] at x1 hgood hst hno
                        have hl3 : O1.length + j ≤ 1000 := by have := HN1.out; have := HLEN.out; omega
                        have hST := fun (W : World) (h : VP.IsQ w W g (plat (O1 ++ O2.take j))) => VP.q_st h hwell pn pb (by omega) (by have := hgood.1.2; exact this) hgood.2 hl3 (by decide)
                        rw [← hst] at hST
                        have HST := Aside0.mk hST
                        have HNO := Aside0.mk hno
                        subst ea
                        clear hat hil hmem hgood hst hwell hpn hpb hST hno hsub hl3
                        go_upto_region 29 with (fail)
                        obtain ⟨wb, hwb⟩ : ∃ wb, wb = wr.alloc (.cells #[.int .i64 pn, .string pb] 28) := ⟨_, rfl⟩
                        have HBA := Aside0.mk (below_alloc (Below.refl wr.heap.size wr) (.cells #[.int .i64 pn, .string pb] 28))
                        rw [← hwb] at HBA ⊢
                        have HX := Aside0.mk (show wb.heap[wr.heap.size]? = some (.cells #[.int .i64 pn, .string pb] 28 (0, 0)) from by rw [hwb]; exact (MapKept.heap_alloc wr _).1)
                        have HQc := Aside0.mk (HQb.out.below HBA.out)
                        have HRc := Aside0.mk (Kd.R_below HRa.out HBA.out)
                        have HUc := Aside0.mk (Kd.R_below HUa.out HBA.out)
                        obtain ⟨q, hq⟩ : ∃ q, q = wr.heap.size := ⟨_, rfl⟩
                        rw [← hq] at HX ⊢
                        clear hwb x0 x1 HQb HRa HUa hq HBA d1 d2
                        go_wp2_with (fail)
                        go_loopg [138] i (fun kz v138 wx => ∃ (y : Nat), v138 = .int .i64 y ∧ Aside0 (y + kz = i) ∧ Aside0 (Below wb.heap.size wb wx))
                        case atStart => exact ⟨0, rfl, ⟨by omega⟩, ⟨Below.refl _ _⟩⟩
                        case round =>
                          obtain ⟨y, rfl, HY, HB3⟩ := hrel
                          have hX := (HB3.out.block _ (blk_lt HX.out)).trans HX.out
                          have y0 : wr.cell? ⟨q, 0, none⟩ = some (.int .i64 pn) := (blk_cell hX 0).trans rfl
                          have y1 : wr.cell? ⟨q, 1, none⟩ = some (.string pb) := (blk_cell hX 1).trans rfl
                          have yq : q < wr.heap.size := blk_lt hX
                          clear hX
                          cases gk with
                          | succ gq =>
                            have hy : y < i := by have := HY.out; omega
                            have d1 : decide ((y : Int) < (i : Int)) = true := decide_eq_true (by omega)
                            have d2 : decide (y < i) = true := decide_eq_true hy
                            have d6 : (y < i) = True := eq_true hy
                            have d7 : ((y : Int) < (i : Int)) = True := eq_true (by omega)
                            have d8 : (0 ≤ (y : Int)) = True := eq_true (by omega)
                            have hyl : y < ys.length := by have := HYN.out; omega
                            have hat : atR ys y = ys[y] := by unfold atR; rw [List.getD_eq_getElem?_getD, List.getElem?_eq_getElem hyl]; rfl
                            obtain ⟨ad, ea, x0, x1⟩ := at_R (Kd.R_reads' (Kd.R_below HUc.out HB3.out)).2.2 y (by have := HYN.out; omega)
                            have hno := HNO.out _ (List.getElem_mem hyl)
                            rw [hat] at x0 x1
                            obtain ⟨yn, hyn⟩ : ∃ p, p = ys[y].1 := ⟨_, rfl⟩
                            obtain ⟨yb, hyb⟩ : ∃ p, p = ys[y].2 := ⟨_, rfl⟩
                            rw [← hyn] at x0 hno
                            rw [← hyb] at x1 hno
                            have k1 : (pn == yn) = false := beq_eq_false_iff_ne.2 hno.1
                            have k3 : decide (pb = yb) = false := decide_eq_false hno.2
                            have k4 : (pb.toList == yb.toList) = false := by
                              have h9 := toList_ne (a := pb) (b := yb)
                              rw [k3] at h9
                              simpa [bne] using h9
                            subst ea
                            clear hat hyl hno hyn hyb
                            go_wp2_with (fail)
                            go_roundg gq
                            case measure => omega
                            case rel => exact ⟨y + 1, by first | rfl | go_num, ⟨by have := HY.out; omega⟩, ⟨by repeat (first | (with_reducible first | exact HB3.out | apply below_alloc | apply pw_below_drewN | apply below_drew1) | exact HB3.out)⟩⟩
                          | zero =>
                            have hy : y = i := by have := HY.out; omega
                            subst hy
                            have d1 : decide ((y : Int) < (y : Int)) = false := decide_eq_false (by omega)
                            have d2 : decide (y < y) = false := decide_eq_false (by omega)
                            have HQd := Aside0.mk (HQc.out.below HB3.out)
                            have HRd := Aside0.mk (Kd.R_below HRc.out HB3.out)
                            have HUd := Aside0.mk (Kd.R_below HUc.out HB3.out)
                            clear HQc HRc HUc HB3 HY
                            go_wp2_with (fail)
                            with_reducible refine (HST.out _ HQd.out).mono ?_
                            rintro e wd ⟨rfl, hq6, ho6⟩
                            have HQe := Aside0.mk hq6
                            have HRe := Aside0.mk (R_others HRd.out ho6 T28o)
                            have HUe := Aside0.mk (R_others HUd.out ho6 T28o)
                            clear hq6 ho6 HQd HRd HUd
                            go_wp2_with (fail)
                            go_roundg gz
                            case measure => omega
                            case rel => exact ⟨j + 1, by first | rfl | go_num, ⟨by have := HJ.out; omega⟩, HQe, HRe, HUe⟩
                      | zero =>
                        have hj : j = n3 := by have := HJ.out; omega
                        subst hj
                        have d1 : decide ((j : Int) < (j : Int)) = false := decide_eq_false (by omega)
                        have d2 : decide (j < j) = false := decide_eq_false (by omega)
                        have hq := HQb.out
                        rw [List.take_of_length_le (by have := HN3.out; omega)] at hq
                        have HQ := Aside0.mk hq
                        clear hq HQb HJ d1 d2
                        have hsm := plat_small HBK2.out.1
                        have HRM := Aside0.mk (fun (W : World) (h : VP.IsQ w W g (plat (O1 ++ O2))) => read_good h hsm HRT2.out HBK2.out.2.1.1 HBK2.out.2.1.2)
                        have HRL := Aside0.mk (fun (W : World) (h : VP.IsQ w W g (plat (O1 ++ O2))) => read_good h hsm HRT.out HBK2.out.2.2.1 HBK2.out.2.2.2)
                        have HREM := Aside0.mk (fun (W : World) (hb : Below w.heap.size w W) => (show Calls Try.prog 14 #[.slice B n2 d] W fun e w' => ∃ v : Value, e = .returned v ∧ kR.R 84 w' W.heap.size (fun _ => True) v M ∧ Below W.heap.size W w' from by have := recs_any B d M W (Kd.C_below HCM.out hb) (by have := HLM.out.2.2; have := HN.out.2; omega) (by have := HLM.out.2.1; omega); rw [← HN.out.2] at this; exact this))
                        clear hsm
                        go_upto_region 38 with (fail)
                        go_wp2_with (fail)
                        with_reducible refine (HRM.out _ HQ.out).mono ?_
                        rintro e wc ⟨vm, um, ym, rfl, hvm, _, _, hbc⟩
                        have HQc := Aside0.mk (HQ.out.below hbc)
                        have HVM := Aside0.mk (Kd.R_lower hvm HQ.out.1.size)
                        clear hvm hbc HQ HRM HRa HUa
                        go_wp2_with (fail)
                        with_reducible refine (HRL.out _ HQc.out).mono ?_
                        rintro e wd ⟨vl, ul, yl, rfl, hvl, _, _, hbd⟩
                        have HQd := Aside0.mk (HQc.out.below hbd)
                        have HVMd := Aside0.mk (Kd.R_below HVM.out hbd)
                        have HVLd := Aside0.mk (Kd.R_lower hvl HQc.out.1.size)
                        obtain ⟨Am, cm, em⟩ := Kd.R_slice HVMd.out
                        obtain ⟨Al, cl, el⟩ := Kd.R_slice HVLd.out
                        rw [← HN.out.2] at em
                        rw [← HN.out.1] at el
                        subst em el
                        clear hvl hbd HQc HRL HVM
                        have HBQ := Aside0.mk (show Below w.heap.size w wd from HQd.out.1)
                        go_wp2_with (fail)
                        with_reducible refine (HREM.out _ HBQ.out).mono ?_
                        rintro e we ⟨vr2, rfl, hr8, hb8⟩
                        have HB8 := Aside0.mk (below_step HQd.out.1 hb8)
                        have HVMe := Aside0.mk (Kd.R_below HVMd.out hb8)
                        have HVLe := Aside0.mk (Kd.R_below HVLd.out hb8)
                        have HR8 := Aside0.mk hr8
                        obtain ⟨Ar2, cr2, er2⟩ := Kd.R_slice HR8.out
                        rw [← HN.out.2] at er2
                        subst er2
                        have hsame := same_any Am cm M Ar2 cr2 M we (Kd.R_reads' HVMe.out).2.2 (by have := (Kd.R_reads' HVMe.out).2.1; have := HN.out.2; omega) (by have := HLM.out.2.1; omega) (Kd.R_reads' HR8.out).2.2 (by have := (Kd.R_reads' HR8.out).2.1; have := HN.out.2; omega)
                        rw [← HN.out.2, decide_eq_true (rfl : M = M)] at hsame
                        have HSAME := Aside0.mk hsame
                        clear hr8 hb8 hsame HQd HVMd HVLd HREM
                        go_wp2_with (fail)
                        with_reducible refine (HSAME.out).mono ?_
                        rintro e wf ⟨rfl, hb9⟩
                        have HB9 := Aside0.mk (below_step HB8.out hb9)
                        have HVLf := Aside0.mk (Kd.R_below HVLe.out hb9)
                        clear hb9 HB8 HVMe HVLe HR8 HSAME
                        go_wp2_with (fail)
                        with_reducible refine (HREC.out _ HB9.out).mono ?_
                        rintro e wg ⟨vr3, rfl, hr8, hb8⟩
                        have HB8 := Aside0.mk (below_step HB9.out hb8)
                        have HVLg := Aside0.mk (Kd.R_below HVLf.out hb8)
                        have HR8 := Aside0.mk hr8
                        obtain ⟨Ar3, cr3, er3⟩ := Kd.R_slice HR8.out
                        rw [← HN.out.1] at er3
                        subst er3
                        have hsame := same_any Al cl L Ar3 cr3 L wg (Kd.R_reads' HVLg.out).2.2 (by have := (Kd.R_reads' HVLg.out).2.1; have := HN.out.1; omega) (by have := HLM.out.1.1; omega) (Kd.R_reads' HR8.out).2.2 (by have := (Kd.R_reads' HR8.out).2.1; have := HN.out.1; omega)
                        rw [← HN.out.1, decide_eq_true (rfl : L = L)] at hsame
                        have HSAME := Aside0.mk hsame
                        clear hr8 hb8 hsame HB9 HVLf
                        go_wp2_with (fail)
                        with_reducible refine (HSAME.out).mono ?_
                        rintro e wh ⟨rfl, hb9⟩
                        have HB10 := Aside0.mk (below_step HB8.out hb9)
                        clear hb9
                        go_wp2_with (fail)
                        go_ret
                        exact ⟨rfl, HB10.out⟩
                  · have hno := planE_no (show (planE M ys ((dn 198).drop i)).2.2 ≠ 0 by rw [← he2]; exact he)
                    have hO0 : O2 = [] := by rw [hO2, hno.1]
                    subst hO0
                    obtain ⟨A4, c4, e4⟩ := Kd.R_slice HRa.out
                    subst e4
                    have q1 : (e2 != 0) = true := by simpa using he
                    clear hno he hO2 hr2 he2 HDF2
                    go_wp2_with (fail)
                    go_ret
                    exact ⟨rfl, HBa.out⟩
            · have hno := planE_no (show (planE L [] (dn 198)).2.2 ≠ 0 by rw [← he1]; exact he)
              have hO0 : O1 = [] := by rw [hO1, hno.1]
              have hr0 : r1 = 0 := by rw [hr1, hno.2]
              subst hO0 hr0
              obtain ⟨A4, c4, e4⟩ := Kd.R_slice HR4.out
              subst e4
              have q1 : (e1 != 0) = true := by simpa using he
              clear hno he hO1 hr1 he1 HDEF
              go_wp2_with (fail)
              go_ret
              exact ⟨rfl, HB4.out⟩
end Go.Proofs.Ytpeeojbhfebcdaa.V
end
section
namespace Go.Proofs.Ytpeeojbhfebcdaa.Th
open Go.ChangeShapes Go.WideShapes Go.ChangeAt Go.RowKit Go.Proofs.YtpeeojbhfebcdaaW.PrintWords
open Go.Proofs.Ytpeeojbhfebcdaa.PAll (S45 k45 k45_mk)
set_option linter.unusedVariables false
set_option linter.unusedSimpArgs false
theorem listed {α : Type} {P : Nat → α → Prop} (n : Nat) (h : ∀ i, i < n → ∃ p, P i p) : ∃ l : List α, l.length = n ∧ ∀ i p, l[i]? = some p → P i p := by
  induction n with
  | zero => exact ⟨[], rfl, fun i p hi => by simp at hi⟩
  | succ n ih =>
    obtain ⟨l, hl, hp⟩ := ih (fun i hi => h i (by omega))
    obtain ⟨p, hpn⟩ := h n (by omega)
    refine ⟨l ++ [p], by rw [List.length_append, hl]; rfl, fun i q hq => ?_⟩
    by_cases hi : i < l.length
    · rw [List.getElem?_append_left hi] at hq; exact hp i q hq
    · rw [List.getElem?_append_right (by omega)] at hq
      by_cases h0 : i - l.length = 0
      · rw [h0] at hq
        simp at hq
        subst hq
        have : i = n := by omega
        rw [this]; exact hpn
      · rw [List.getElem?_eq_none (by simp; omega)] at hq; cases hq
theorem list2 {cs : List Value} (h : cs.length = 2) : ∃ c0 c1, cs = [c0, c1] := by
  match cs, h with
  | [c0, c1], _ => exact ⟨c0, c1, rfl⟩
section
variable {H : Type} {enc : TypeId × Value → H} {W : World} {base : Nat} {spare : Nat → Bool} {held : Bool}
theorem cells3 : Try.prog.cellsOf 3 = 1 := by kernel_rfl
theorem cells9 : Try.prog.cellsOf 9 = 1 := by kernel_rfl
theorem cells45 : Try.prog.cellsOf 45 = 2 := by kernel_rfl
theorem int_of {t : TypeId} {n : Nat} {c : Value} {y : Option (DataW H × List MemPlace)} (ht : Try.prog.underlying t = some (.int .i64)) (h : DataW.trod enc Try.prog W base spare held n t [c] = y) (hy : y.isSome = true) : ∃ a : Int, c = .int .i64 a ∧ (Lit.int .i64 a).wf = true := by
  obtain ⟨x, rfl⟩ := Option.isSome_iff_exists.1 hy
  obtain ⟨a, hc, _, hw⟩ := DataW.trod_int ht h
  simp at hc
  exact ⟨a, hc, hw⟩
theorem cell_of {n : Nat} {cs : List Value} {y : Option (DataW H × List MemPlace)} (h : DataW.trod enc Try.prog W base spare held n 45 cs = y) (hy : y.isSome = true) : ∃ x : S45, cs = [.int .i64 x.f0, .string x.f1] ∧ x.f1.size ≤ maxLen := by
  obtain ⟨x, rfl⟩ := Option.isSome_iff_exists.1 hy
  obtain ⟨xs, m, _, _, hcl, hlen, hx⟩ := DataW.trod_struct Try.underlying45 h
  obtain ⟨c0, c1, rfl⟩ := list2 (hcl.trans cells45)
  have h0 := hx 0 _ rfl
  change DataW.trod enc Try.prog W base spare held m 3 (([c0, c1].drop 0).take (Try.prog.cellsOf 3)) = xs[0]? at h0
  rw [cells3] at h0
  have h3 := hx 1 _ rfl
  change DataW.trod enc Try.prog W base spare held m 9 (([c0, c1].drop 1).take (Try.prog.cellsOf 9)) = xs[1]? at h3
  rw [cells9] at h3
  have hl : xs.length = 2 := hlen
  simp only [List.drop_zero, List.drop_succ_cons, List.take_succ_cons, List.take_zero] at h0 h3
  obtain ⟨a0, rfl, _⟩ := int_of Try.underlying3 h0 (by simp [hl])
  obtain ⟨z3, e3⟩ := Option.isSome_iff_exists.1 (show xs[1]?.isSome = true by simp [hl])
  obtain ⟨s3, g3, hs3⟩ := DataW.trod_string Try.underlying9 (h3.trans e3)
  simp at g3
  subst g3
  exact ⟨⟨a0, s3⟩, rfl, by first | exact hs3.2 | exact hs3 | exact hs3.1⟩
theorem cells_of {n : Nat} {c : Value} {y : Option (DataW H × List MemPlace)} (h : DataW.trod enc Try.prog W base spare held n 22 [c] = y) (hy : y.isSome = true) : ∃ (A : Option Addr) (cp : Nat) (l : List S45), c = .slice A l.length cp ∧ Kd.C k45 W A l.length l ∧ l.length ≤ cp ∧ l.length ≤ maxLen ∧ ∀ x ∈ l, x.f1.size ≤ maxLen := by
  obtain ⟨x, rfl⟩ := Option.isSome_iff_exists.1 hy
  rcases DataW.trod_slice Try.underlying22 h with ⟨hcs, _⟩ | ⟨a, len, cap, elems, rest, m, _, hcs, _, hb, hl, hm, hlen, hel, _⟩
  · simp at hcs
    subst hcs
    exact ⟨none, 0, [], rfl, ⟨rfl, by decide, fun h => absurd h (by decide)⟩, Nat.le_refl _, by decide, fun x hx => by cases hx⟩
  · simp at hcs
    subst hcs
    rw [cells45] at hel
    obtain ⟨l, hll, hp⟩ := listed (P := fun i (p : S45) => p.f1.size ≤ maxLen ∧ ∀ j u, [(.int .i64 p.f0 : Value), .string p.f1][j]? = some u → W.cell? (a.add (i * 2 + j)) = some u) len (fun i hi => by
      have h1 := hel i hi
      have h2 : elems[i]?.isSome = true := by rw [List.getElem?_eq_getElem (by omega)]; rfl
      rw [← h1] at h2
      rcases hc : W.cells? base (a.add (i * 2)) 2 with _ | cs
      · rw [hc] at h2; simp at h2
      · rw [hc, Option.bind_some] at h2
        obtain ⟨p, rfl, hps⟩ := cell_of rfl h2
        refine ⟨p, hps, fun j u hu => ?_⟩
        have h3 := (World.cells?_some hc)
        have hj : j < 2 := by
          rcases Nat.lt_or_ge j 2 with h | h
          · exact h
          · rw [List.getElem?_eq_none (by simpa using h)] at hu; cases hu
        have h4 := h3.2.2 j hj
        rw [hu] at h4
        rw [← h4]
        exact congrArg W.cell? (Addr.add_add a (i * 2) j).symm)
    exact ⟨some a, cap, l, by rw [hll], ⟨rfl, by rw [hll]; exact Nat.le_trans hl hm, fun _ => ⟨a, rfl, fun j p hj => ⟨_, rfl, k45_mk W p, fun i u hu => (hp j p hj).2 i u hu⟩⟩⟩, by rw [hll]; exact hl, by rw [hll]; exact Nat.le_trans hl hm,
      fun x hx => by obtain ⟨j, hj, rfl⟩ := List.getElem_of_mem hx; exact (hp j _ (List.getElem?_eq_getElem hj)).1⟩
set_option maxRecDepth 100000 in
theorem cells_open {r : Reach} {b0 : Nat} {v : Value} {d : DataW H} {p : List MemPlace} (hv : Value.okWide Try.prog W r b0 22 v) (h : DataW.Trod enc Try.prog W base spare held 22 v d p) :
    ∃ (A : Option Addr) (c : Nat) (l : List S45), v = .slice A l.length c ∧ Kd.C k45 W A l.length l ∧ l.length ≤ c ∧ l.length ≤ maxLen ∧ ∀ x ∈ l, x.f1.size ≤ maxLen := by
  obtain ⟨a, len, cap, rfl⟩ := okWide_slice (P := Try.prog) (w := W) (r := r) (base := b0) (v := v) Try.underlying22 hv
  obtain ⟨fuel, hf⟩ := h
  exact cells_of (y := some (d, p)) hf rfl
end
end Go.Proofs.Ytpeeojbhfebcdaa.Th
end
