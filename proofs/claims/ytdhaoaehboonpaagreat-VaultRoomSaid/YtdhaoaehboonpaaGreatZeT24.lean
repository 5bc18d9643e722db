/- Of the texts that the row stands on, what it needs (part 24), put together by a program of this session. -/
import Derived.Test.YtdhaoaehboonpaaGreatZeT23
import Derived.BigQuiet
import Derived.Deep.RegionLaw
import Derived.Deep.QuietTactic
section
namespace Go.Proofs.YtdhaoaehboonpaaGreat.V
open Go.RowKit Go.Proofs.YtdhaoaehboonpaaGreatW.PrintWords Go.Proofs.YtdhaoaehboonpaaGreatW.PrintLast Go.Proofs.YtdhaoaehboonpaaGreatW.PrintMore Go.Proofs.YtdhaoaehboonpaaGreatM
set_option linter.unusedVariables false
set_option linter.unusedSimpArgs false
def linkE (b : ByteArray) : Int × ByteArray × Bool := (PRd.sheet_Link.f 12 b).getD (0, ⟨#[]⟩, false)
theorem linkE_is (b : ByteArray) (h : b.size ≤ 1000000) : PRd.sheet_Link.f 12 b = some (linkE b) ∧ ∃ bad nx pc, linkE b = PRd.linkFin b bad nx pc := by
  obtain ⟨bad, nx, pc, hk⟩ := PRd.link_ex b h
  have h1 := hk 12 (Nat.le_refl _)
  unfold linkE
  rw [h1]
  exact ⟨rfl, bad, nx, pc, rfl⟩
theorem linkE_range (b : ByteArray) (h : b.size ≤ 1000000) : 0 ≤ (linkE b).1 ∧ (linkE b).1 < 200 ∧ (linkE b).2.1.size ≤ 120 := by
  obtain ⟨_, bad, nx, pc, e⟩ := linkE_is b h
  rw [e]
  unfold PRd.linkFin
  split
  · rename_i hc
    simp only [Bool.and_eq_true] at hc
    have h1 := hc.2.1
    unfold chOk at h1
    simp only [Bool.and_eq_true, Bool.or_eq_true, decide_eq_true_eq] at h1
    obtain ⟨h1, h2, h3⟩ := h1
    refine ⟨?_, ?_, h3⟩
    · show 0 ≤ nx
      rcases h1 with h1 | h1
      · omega
      · have := PRd.okP_range h1; omega
    · show nx < 200
      rcases h1 with h1 | h1
      · omega
      · have := PRd.okP_range h1; omega
  · exact ⟨Int.le_refl _, by decide, by decide⟩
theorem link_any (b : ByteArray) (h : b.size ≤ 1000000) (w : World) : Calls Tryz.prog 181 #[.string b] w fun e w' => e = .returned (.tuple #[.int .i64 (linkE b).1, .string (linkE b).2.1, .bool (linkE b).2.2]) ∧ Below w.heap.size w w' :=
  PRd.sheet_Link.calls 12 b _ _ _ w (linkE_is b h).1
theorem wfI_small {n : Int} (h0 : -9223372036854775808 ≤ n) (h1 : n ≤ 9223372036854775807) : wfI n := by
  unfold wfI
  simp only [Lit.wf, decide_eq_true_eq, Bool.and_eq_true]
  first | exact ⟨h0, h1⟩ | (simp [IntKind.i64]; omega)
def LdSmall (ld : Ld) : Prop := ∀ n, (ld n).1.size ≤ 1000000
def FOk (S : FS) : Prop := ∀ n b, S.pages n = some b → b.size ≤ 1000000
theorem fForm_ok {S : FS} (h : FOk S) : FOk (fForm S) := by unfold fForm; split <;> exact h
theorem fPage_ok {ld : Ld} (hl : LdSmall ld) {S : FS} (h : FOk S) (n : Int) : FOk (fPage ld S n).2 ∧ (fPage ld S n).1.size ≤ 1000000 := by
  unfold fPage
  cases hp : S.pages n with
  | some b => exact ⟨h, h n b hp⟩
  | none =>
    show FOk (if S.e = 0 then _ else _ : ByteArray × FS).2 ∧ (if S.e = 0 then _ else _ : ByteArray × FS).1.size ≤ 1000000
    split
    · split
      · refine ⟨fun k b hk => ?_, hl n⟩
        by_cases e : k = n
        · change upd S.pages n (ld n).1 k = some b at hk
          rw [e, upd_same] at hk
          injection hk with hk
          rw [← hk]; exact hl n
        · change upd S.pages n (ld n).1 k = some b at hk
          rw [upd_ne _ _ e] at hk
          exact h k b hk
      · exact ⟨h, hl n⟩
    · exact ⟨h, by show (0 : Nat) ≤ 1000000; decide⟩
def badL (size : Int) (t : Int × ByteArray × Bool) : Bool := !t.2.2 || (((t.2.1.size : Int) != min size 120) || ((t.1 == 0) != (size - min size 120 == 0)))
def fStep (ld : Ld) (S : FS) (n size : Int) : FS := if badL size (linkE (fPage ld S n).1) = true then fForm (fPage ld S n).2 else (fPage ld S n).2
def fChain : Nat → Ld → FS → Int → Int → ByteArray → ByteArray × FS
  | 0, _, S, _, _, o => (o, S)
  | k + 1, ld, S, n, size, o => if S.e = 0 ∧ 0 < size then fChain k ld (fStep ld S n size) (linkE (fPage ld S n).1).1 (size - min size 120) (o ++ (linkE (fPage ld S n).1).2.1) else (o, S)
theorem fStep_ok {ld : Ld} (hl : LdSmall ld) {S : FS} (h : FOk S) (n size : Int) : FOk (fStep ld S n size) := by
  unfold fStep
  split
  · exact fForm_ok (fPage_ok hl h n).1
  · exact (fPage_ok hl h n).1
set_option maxHeartbeats 8000000 in
set_option maxRecDepth 100000 in
theorem fchain_any {w0 w : World} {g m : Nat} {L v : Value} {ld : Ld} {S : FS} (HL : LdOk w0 L ld) (hs : LdSmall ld) (h : IsFind w0 w g m L v S) (hf : FOk S) (n size : Int) (hn : wfI n) (hz : size ≤ 900) (hz0 : -1 ≤ size) :
    Calls Tryz.prog 163 #[.pointer (some ⟨g, 0, none⟩), .int .i64 n, .int .i64 size] w fun e w' => e = .returned (.string (fChain 1000 ld S n size ⟨#[]⟩).1) ∧ IsFind w0 w' g m L v (fChain 1000 ld S n size ⟨#[]⟩).2 ∧ Kq w w' g m := by
  obtain ⟨R, hR⟩ : ∃ R, R = fChain 1000 ld S n size ⟨#[]⟩ := ⟨_, rfl⟩
  rw [← hR]
  have HR := Aside0.mk hR.symm
  have HF := Aside0.mk h
  have HO := Aside0.mk hf
  have HN := Aside0.mk hn
  have HLD := Aside0.mk HL
  have HSM := Aside0.mk hs
  have HZ := Aside0.mk (And.intro hz hz0)
  clear h hf hn HL hs hz hz0 hR
  go_enter Tryz.func163, Tryz.ntmps163
  go_upto_region 2 with (fail)
  go_loopg [1, 2, 7] 1000 (fun kq v1 v2 v7 w' => ∃ (n' s' : Int) (o : ByteArray) (S' : FS), v1 = .int .i64 n' ∧ v2 = .int .i64 s' ∧ v7 = .string o ∧ Aside0 (wfI n') ∧ Aside0 (s' ≤ 900 ∧ -1 ≤ s') ∧ Aside0 (s' < kq) ∧ Aside0 (o.size + 120 * kq ≤ 120000) ∧ Aside0 (FOk S') ∧ Aside0 (fChain kq ld S' n' s' o = R) ∧ Aside0 (IsFind w0 w' g m L v S') ∧ Aside0 (Kq w w' g m))
  case atStart => exact ⟨_, _, _, _, rfl, rfl, rfl, HN, HZ, ⟨by have := HZ.out; omega⟩, ⟨by decide⟩, HO, HR, HF, ⟨Kq.refl _ _ _⟩⟩
  case round =>
    clear HR HF HO HN HZ
    obtain ⟨n', s', o, S', rfl, rfl, rfl, HN, HZ, HK, HS, HO, HR, HF, HKF⟩ := hrel
    have hF := HF.out
    obtain ⟨h1, h2, h3, h4, h5, h6⟩ := hF
    obtain ⟨c0, c1, c2, c3⟩ := cell104 h1
    clear h1 h2 h3 h4 h5 h6 c0 c1 c2
    by_cases he : S'.e = 0
    · have d1 : (S'.e == 0) = true := by simpa using he
      by_cases hs : 0 < s'
      · have d2 : decide (s' > 0) = true := decide_eq_true hs
        cases gk with
        | zero => have := HK.out; omega
        | succ gk =>
          have hR := HR.out
          rw [show fChain (gk + 1) ld S' n' s' o = fChain gk ld (fStep ld S' n' s') (linkE (fPage ld S' n').1).1 (s' - min s' 120) (o ++ (linkE (fPage ld S' n').1).2.1) from if_pos ⟨he, hs⟩] at hR
          have hb := (fPage_ok HSM.out HO.out n').2
          have hO2 := fStep_ok HSM.out HO.out n' s'
          have HP := Aside0.mk (page_any HLD.out HF.out n' HN.out)
          have hrg := linkE_range (fPage ld S' n').1 hb
          have hst : fStep ld S' n' s' = if badL s' (linkE (fPage ld S' n').1) = true then fForm (fPage ld S' n').2 else (fPage ld S' n').2 := rfl
          obtain ⟨b, hb1⟩ : ∃ b, b = (fPage ld S' n').1 := ⟨_, rfl⟩
          obtain ⟨S1, hS1⟩ : ∃ S1, S1 = (fPage ld S' n').2 := ⟨_, rfl⟩
          rw [← hb1] at hR HP hrg hb hst
          rw [← hS1] at HP hst
          have HLK := Aside0.mk (fun W => link_any b hb W)
          obtain ⟨t1, t2, t3, ht⟩ : ∃ t1 t2 t3, linkE b = (t1, t2, t3) := ⟨_, _, _, rfl⟩
          rw [ht] at HLK hR hrg hst
          obtain ⟨S2, hS2⟩ : ∃ S2, S2 = fStep ld S' n' s' := ⟨_, rfl⟩
          rw [← hS2] at hR hst hO2
          obtain ⟨bd, hbd⟩ : ∃ bd, bd = badL s' (t1, t2, t3) := ⟨_, rfl⟩
          rw [← hbd] at hst
          have HR2 := Aside0.mk hR
          have HST := Aside0.mk hst
          have HO2 := Aside0.mk hO2
          have HBD := Aside0.mk hbd
          have HRG := Aside0.mk hrg
          have HE := Aside0.mk he
          simp only [] at HR2 HLK HRG
          have q0 : (o.size + t2.size ≤ 9223372036854775807) = True := eq_true (by have := HS.out; have := HRG.out.2.2; omega)
          have q1 : (9223372036854775807 < o.size + t2.size) = False := eq_false (by have := HS.out; have := HRG.out.2.2; omega)
          have hs9 := HZ.out.1
          clear hR hst hO2 hbd hrg he hb1 hS1 ht hS2 hb HR
          go_upto_region 6 with (first
            | (go_at_call 109; (with_reducible refine (HP.out).mono ?_); rintro e w1 ⟨rfl, hf1, hk1⟩; have HF1 := Aside0.mk hf1; have HK1 := Aside0.mk (HKF.out.trans hk1); clear hf1 hk1)
            | (go_at_call 181; (with_reducible refine (HLK.out _).mono ?_); rintro e w2 ⟨rfl, hb2⟩; have HF2 := Aside0.mk (HF1.out.step hb2); have HK2 := Aside0.mk (HK1.out.trans (Kq.below hb2 g m)); clear hb2))
          have sub0 : (0 : Int) ≤ s' - min s' 120 := by omega
          have sub1 : s' - min s' 120 < s' := by omega
          have SUB := Aside0.mk (And.intro sub0 sub1)
          clear sub0 sub1
          go_cut [48] (fun v48 wc => v48 = .bool bd ∧ wc = w2)
          case first =>
            have hb := HBD.out
            change bd = (!t3 || (((t2.size : Int) != min s' 120) || ((t1 == 0) != (s' - min s' 120 == 0)))) at hb
            obtain ⟨b2, hb2⟩ : ∃ c, ((t2.size : Int) != min s' 120) = c := ⟨_, rfl⟩
            obtain ⟨b3, hb3⟩ : ∃ c, (t1 == 0) = c := ⟨_, rfl⟩
            obtain ⟨b4, hb4⟩ : ∃ c, (s' - min s' 120 == 0) = c := ⟨_, rfl⟩
            rw [hb2, hb3, hb4] at hb
            clear HBD
            cases t3
            case false =>
              subst hb
              go_wp2_with (fail)
              go_meet
              exact ⟨rfl, rfl⟩
            case true =>
              cases b2
              case true =>
                subst hb
                go_wp2_with (fail)
                go_meet
                exact ⟨rfl, rfl⟩
              case false =>
                cases b3
                all_goals
                  cases b4
                  all_goals
                    subst hb
                    go_wp2_with (fail)
                    go_meet
                    exact ⟨rfl, rfl⟩
          case rest =>
            obtain ⟨rfl, rfl⟩ := hcut
            clear HBD
            have hst := HST.out
            cases bd
            case true =>
              rw [if_pos rfl] at hst
              subst hst
              clear HST
              go_wp2_with (first | (go_at_call 110; (with_reducible refine (form_any HF2.out).mono ?_); rintro e w3 ⟨rfl, hf3, hk3⟩; have HF3 := Aside0.mk hf3; have HK3 := Aside0.mk (HK2.out.trans hk3); clear hf3 hk3))
              go_roundg gk
              case measure => omega
              case rel => exact ⟨t1, s' - min s' 120, o ++ t2, _, rfl, rfl, rfl, ⟨wfI_small (by have := HRG.out.1; omega) (by have := HRG.out.2.1; omega)⟩, ⟨by have := SUB.out; have := HZ.out; omega⟩, ⟨by have := SUB.out; have := HK.out; omega⟩, ⟨by rw [ByteArray.size_append]; have := HS.out; have := HRG.out.2.2; omega⟩, HO2, HR2, HF3, HK3⟩
            case false =>
              rw [if_neg (by decide)] at hst
              subst hst
              clear HST
              go_wp2_with (fail)
              go_roundg gk
              case measure => omega
              case rel => exact ⟨t1, s' - min s' 120, o ++ t2, _, rfl, rfl, rfl, ⟨wfI_small (by have := HRG.out.1; omega) (by have := HRG.out.2.1; omega)⟩, ⟨by have := SUB.out; have := HZ.out; omega⟩, ⟨by have := SUB.out; have := HK.out; omega⟩, ⟨by rw [ByteArray.size_append]; have := HS.out; have := HRG.out.2.2; omega⟩, HO2, HR2, HF2, HK2⟩
      · have d2 : decide (s' > 0) = false := decide_eq_false hs
        have hR := HR.out
        have hR2 : (o, S') = R := by
          cases gk with
          | zero => exact hR
          | succ gk => rw [show fChain (gk + 1) ld S' n' s' o = (o, S') from if_neg (fun h => hs h.2)] at hR; exact hR
        subst hR2
        clear hR hs he HR
        go_wp2_with (fail)
        go_ret
        exact ⟨rfl, HF.out, HKF.out⟩
    · have d1 : (S'.e == 0) = false := by simpa using he
      have hR := HR.out
      have hR2 : (o, S') = R := by
        cases gk with
        | zero => exact hR
        | succ gk => rw [show fChain (gk + 1) ld S' n' s' o = (o, S') from if_neg (fun h => he h.1)] at hR; exact hR
      subst hR2
      clear hR he HR
      go_wp2_with (fail)
      go_ret
      exact ⟨rfl, HF.out, HKF.out⟩
def cellsP (b : ByteArray) : List PRd.S151 × Bool := (PRd.sheet_Cells.f 600 b).getD ([], false)
def tC (l : List PRd.S151) : List C4 := l.map fun x => (x.f0, x.f1, x.f2, x.f3)
def cellsE (b : ByteArray) : List C4 × Bool := (tC (cellsP b).1, (cellsP b).2)
theorem cellsP_is (b : ByteArray) : PRd.sheet_Cells.f 600 b = some (cellsP b) ∧ ∃ bad l, cellsP b = PRd.cellsFin b bad l := by
  obtain ⟨bad, l, hk⟩ := PRd.cells_ex b
  have h1 := hk 600 (Nat.le_refl _)
  unfold cellsP
  rw [h1]
  exact ⟨rfl, bad, l, rfl⟩
def goodR (x : C4) : Prop := -1 ≤ x.2.1 ∧ x.2.1 ≤ 900 ∧ wfI x.2.2.1
theorem cellsE_ok (b : ByteArray) : (cellsE b).1.length ≤ 128 ∧ (∀ x ∈ (cellsE b).1, goodR x) ∧ ((cellsE b).2 = false → (cellsE b).1 = []) := by
  obtain ⟨_, bad, l, e⟩ := cellsP_is b
  unfold cellsE
  rw [e]
  unfold PRd.cellsFin
  split
  · rename_i hc
    simp only [Bool.and_eq_true] at hc
    have h1 := hc.2.1
    unfold PRd.leafOk at h1
    simp only [Bool.and_eq_true, decide_eq_true_eq] at h1
    obtain ⟨h1, h2, _⟩ := h1
    refine ⟨by unfold tC; rw [List.length_map]; exact h1, fun x hx => ?_, fun h => by cases h⟩
    unfold tC at hx
    obtain ⟨y, hy, rfl⟩ := List.mem_map.1 hx
    obtain ⟨j, hj, rfl⟩ := PRd.mem_rd52 hy
    unfold PRd.leafV lfV at h2
    rw [all_at] at h2
    have h3 := h2 j hj
    simp only [Bool.and_eq_true] at h3
    have h4 := h3.2
    unfold okR at h4
    unfold goodR
    split at h4
    · rename_i h24
      simp only [Bool.and_eq_true, decide_eq_true_eq, beq_iff_eq] at h4
      exact ⟨by show -1 ≤ (PRd.rd_T151 l j).f1; have := h4.1; omega, by show (PRd.rd_T151 l j).f1 ≤ 900; omega, by show wfI (PRd.rd_T151 l j).f2; rw [h4.2]; exact wfI_small (by decide) (by decide)⟩
    · rename_i h24
      simp only [Bool.and_eq_true, decide_eq_true_eq] at h4
      have h5 := PRd.okP_range h4.2.2
      exact ⟨by show -1 ≤ (PRd.rd_T151 l j).f1; omega, h4.1, (show wfI (PRd.rd_T151 l j).f2 from wfI_small (by omega) (by omega))⟩
  · exact ⟨by show 0 ≤ 128; decide, fun x hx => (List.not_mem_nil hx).elim, fun _ => rfl⟩
theorem cells_any (b : ByteArray) (w : World) : Calls Tryz.prog 162 #[.string b] w fun e w' => ∃ v0 : Value, e = .returned (.tuple #[v0, .bool (cellsE b).2]) ∧ kC.R 151 w' w.heap.size (fun _ => True) v0 (cellsE b).1 ∧ Below w.heap.size w w' := by
  refine (PRd.sheet_Cells.calls 600 b _ _ w (cellsP_is b).1).mono ?_
  rintro e w' ⟨v, rfl, hR, hb⟩
  exact ⟨v, rfl, R_iso (f := fun x : PRd.S151 => (x.f0, x.f1, x.f2, x.f3)) hR, hb⟩
def lastGe (o : List R2) (k : Int) : Bool := match o.getLast? with | some r => decide (k ≤ r.1) | none => false
def fCell (ld : Ld) (S : FS) (c : C4) : ByteArray × FS := if 24 < c.2.1 then fChain 1000 ld S c.2.2.1 c.2.1 ⟨#[]⟩ else (c.2.2.2, S)
def fCells (ld : Ld) : List C4 → FS → FS
  | [], S => S
  | c :: r, S => if lastGe S.out c.1 = true then fForm S else fCells ld r { (fCell ld S c).2 with out := S.out ++ [(c.1, (fCell ld S c).1)] }
def okHd (l : List C4) (k : Int) : Bool := match l with | [] => false | c :: _ => decide (c.1 = k)
def fLeaf (ld : Ld) (S : FS) (s : S2) : FS :=
  if ((cellsE (fPage ld S s.2).1).2 && okHd (cellsE (fPage ld S s.2).1).1 s.1) = true then fCells ld (cellsE (fPage ld S s.2).1).1 (fPage ld S s.2).2 else fForm (fPage ld S s.2).2
theorem fForm_out (S : FS) : (fForm S).out = S.out := by unfold fForm; split <;> rfl
theorem fPage_out (ld : Ld) (S : FS) (n : Int) : (fPage ld S n).2.out = S.out := by
  unfold fPage
  split
  · rfl
  · split
    · split <;> rfl
    · rfl
theorem fStep_out (ld : Ld) (S : FS) (n s : Int) : (fStep ld S n s).out = S.out := by
  unfold fStep
  split
  · rw [fForm_out, fPage_out]
  · rw [fPage_out]
theorem fChain_out (ld : Ld) : ∀ (k : Nat) (S : FS) (n s : Int) (o : ByteArray), (fChain k ld S n s o).2.out = S.out
  | 0, _, _, _, _ => rfl
  | k + 1, S, n, s, o => by
    unfold fChain
    split
    · rw [fChain_out ld k, fStep_out]
    · rfl
theorem fCell_out (ld : Ld) (S : FS) (c : C4) : (fCell ld S c).2.out = S.out := by
  unfold fCell
  split
  · exact fChain_out ld _ _ _ _ _
  · rfl
theorem fChain_ok {ld : Ld} (hl : LdSmall ld) : ∀ (k : Nat) {S : FS} (n s : Int) (o : ByteArray), FOk S → FOk (fChain k ld S n s o).2
  | 0, _, _, _, _, h => h
  | k + 1, S, n, s, o, h => by
    unfold fChain
    split
    · exact fChain_ok hl k _ _ _ (fStep_ok hl h n s)
    · exact h
theorem fCell_ok {ld : Ld} (hl : LdSmall ld) {S : FS} (h : FOk S) (c : C4) : FOk (fCell ld S c).2 := by
  unfold fCell
  split
  · exact fChain_ok hl _ _ _ _ h
  · exact h
theorem fCells_ok {ld : Ld} (hl : LdSmall ld) : ∀ (l : List C4) {S : FS}, FOk S → FOk (fCells ld l S)
  | [], _, h => h
  | c :: r, S, h => by
    unfold fCells
    split
    · exact fForm_ok h
    · exact fCells_ok hl r (S := { (fCell ld S c).2 with out := S.out ++ [(c.1, (fCell ld S c).1)] }) (fun n b hb => fCell_ok hl h c n b hb)
theorem fLeaf_ok {ld : Ld} (hl : LdSmall ld) {S : FS} (h : FOk S) (s : S2) : FOk (fLeaf ld S s) := by
  unfold fLeaf
  split
  · exact fCells_ok hl _ (fPage_ok hl h _).1
  · exact fForm_ok (fPage_ok hl h _).1
theorem fCells_len (ld : Ld) : ∀ (l : List C4) (S : FS), (fCells ld l S).out.length ≤ S.out.length + l.length
  | [], S => Nat.le_refl _
  | c :: r, S => by
    unfold fCells
    split
    · rw [fForm_out]; omega
    · refine Nat.le_trans (fCells_len ld r _) ?_
      show (S.out ++ [_]).length + r.length ≤ _
      simp; omega
theorem fLeaf_len (ld : Ld) (S : FS) (s : S2) : (fLeaf ld S s).out.length ≤ S.out.length + 128 := by
  unfold fLeaf
  split
  · have h1 := fCells_len ld (cellsE (fPage ld S s.2).1).1 (fPage ld S s.2).2
    rw [fPage_out] at h1
    have h2 := (cellsE_ok (fPage ld S s.2).1).1
    omega
  · rw [fForm_out, fPage_out]; omega
theorem C_block {α : Type} {d : Kd α} {w : World} {g e : Nat} {cs : Array Value} {xs : List α} (h : w.heap[g]? = some (.cells cs e (0, 0))) (hr : Reps (d.K w) d.sz xs cs.toList) (hl : xs.length ≤ 9223372036854775807) : d.C w (some ⟨g, 0, none⟩) xs.length xs := by
  refine ⟨rfl, hl, fun _ => ⟨_, rfl, fun j p hj => ?_⟩⟩
  have h1 := hr.2 j p hj
  refine ⟨_, d.K_len h1, h1, fun i u hu => ?_⟩
  have hi : i < d.sz := by
    rcases Nat.lt_or_ge i d.sz with h | h
    · exact h
    · rw [List.getElem?_eq_none (by rw [d.K_len h1]; exact h)] at hu; cases hu
  rw [List.getElem?_take_of_lt hi, List.getElem?_drop, Array.getElem?_toList] at hu
  rw [add_plain, blk_cell h]
  exact hu
theorem kR_own {e : Nat} {w : World} {base : Nat} {ok : Nat → Prop} {v : Value} {xs : List R2} (h : kR.R e w base ok v xs) : kR.R e w base (fun k => v.ownBlock = some k) v xs :=
  ⟨fun k hk => hk, h.2.imp_ (fun x cs hp => by rw [kR_openM hp]; exact kR_mkM _ _ _ _)⟩
theorem IsFind.setR {w0 w : World} {g m r : Nat} {L v : Value} {S : FS} {cs : Array Value} (h : IsFind w0 w g m L v S) (hr : w.heap[r]? = some (.cells cs 50 (0, 0))) (hv : v.ownBlock ≠ some r) (hb : w0.heap.size ≤ r) (j : Nat) (u : Value) : IsFind w0 (w.setCell ⟨r, j, none⟩ u) g m L v S := by
  obtain ⟨h1, h2, h3, h4, h5, h6⟩ := h
  have hgr : g ≠ r := by
    rintro rfl
    rw [h1] at hr
    injection hr with hr
    injection hr with _ hr
    exact absurd hr (by decide)
  refine ⟨(Below.heap_setCell _ ⟨r, j, none⟩ _ g hgr).trans h1, h2, h3, h4.at (Below.heap_setCell _ ⟨r, j, none⟩ _ m (pg_ne h4 hr)), Kd.R_mono (Kd.R_far (p := ⟨r, j, none⟩) (kR_own h5) (fun k hk e => hv (by rw [hk, e])) u) (fun _ _ => trivial), below_set h6 hb⟩
theorem Kf.setR {w : World} {g r j : Nat} {u : Value} {cs : Array Value} (hr : w.heap[r]? = some (.cells cs 50 (0, 0))) : Kf w (w.setCell ⟨r, j, none⟩ u) g :=
  ⟨by simp [World.setCell], fun k c t ht _ hb => (Below.heap_setCell w ⟨r, j, none⟩ u k (by
    rintro rfl
    rw [hr] at hb
    injection hb with hb
    injection hb with _ hb
    exact ht hb.symm)).trans hb⟩
theorem pg_ne_row {α : Type} {d : Kd α} {e b m : Nat} {w : World} {o : Nat → Prop} {v : Value} {xs : List α} {f : Int → Option ByteArray} (h : d.R e w b o v xs) (hm : IsPg w m f) : some m ≠ v.ownBlock := by
  intro hk
  obtain ⟨c1, e1⟩ := Kd.R_typed h m hk.symm
  obtain ⟨es, c, e2, _⟩ := hm
  rw [e1] at e2
  cases e2
def Ext (f g : ByteArray → Option Int) : Prop := ∀ b n, f b = some n → g b = some n
theorem Ext.refl (f : ByteArray → Option Int) : Ext f f := fun _ _ h => h
theorem Ext.trans {f g h : ByteArray → Option Int} (a : Ext f g) (b : Ext g h) : Ext f h := fun x n k => b x n (a x n k)
theorem Ext.upd {f : ByteArray → Option Int} {b : ByteArray} {n : Int} (h : f b = none) : Ext f (upd f b n) := fun x m hx => by
  by_cases e : x = b
  · rw [e, h] at hx; cases hx
  · rw [upd_ne _ _ e]; exact hx
theorem putS_ext (S : PS) (b : ByteArray) (is : Bool) : Ext S.known (putS S b is).known := by
  unfold putS
  by_cases h : S.e = 0
  · rw [if_pos h]
    cases is with
    | false => exact Ext.refl _
    | true =>
      rw [if_pos rfl]
      cases hk : S.known b with
      | some n => exact Ext.refl _
      | none =>
        cases hf : S.free with
        | nil => exact Ext.refl _
        | cons n fr => exact Ext.upd hk
  · rw [if_neg h]; exact Ext.refl _
theorem chainF_ext (l : List ByteArray) (S : PS) : Ext S.known (chainF l S).2.known := by
  induction l with
  | nil => exact Ext.refl _
  | cons x l ih => rw [chainF_cons]; exact ih.trans (putS_ext _ _ _)
theorem chainsF_ext : ∀ (l : List R2) (S : PS), Ext S.known (chainsF l S).2.known
  | [], S => Ext.refl _
  | r :: t, S => by
    rw [chainsF_cons]
    split
    · exact (chainF_ext _ _).trans (chainsF_ext t _)
    · exact chainsF_ext t _
theorem slotsF_ext : ∀ (l : List (List C4)) (S : PS), Ext S.known (slotsF l S).2.known
  | [], S => Ext.refl _
  | x :: t, S => by
    rw [slotsF_cons]
    split
    · exact (putS_ext _ _ _).trans (slotsF_ext t _)
    · exact slotsF_ext t _
def KnOut (hv : List R2) (S : PS) : Prop := S.known = knF (hv ++ S.out)
theorem putS_kn {hv : List R2} {S : PS} (h : KnOut hv S) (b : ByteArray) (is : Bool) : KnOut hv (putS S b is) := by
  unfold putS
  by_cases h0 : S.e = 0
  · rw [if_pos h0]
    cases is with
    | false => exact h
    | true =>
      rw [if_pos rfl]
      cases hk : S.known b with
      | some n => exact h
      | none =>
        cases hf : S.free with
        | nil => exact h
        | cons n fr =>
          show upd S.known b n = knF (hv ++ (S.out ++ [(n, b)]))
          unfold KnOut at h
          rw [← List.append_assoc]
          unfold knF at h ⊢
          rw [List.foldl_append, ← h]
          show _ = knS S.known (n, b)
          unfold knS
          simp only [hk]
  · rw [if_neg h0]; exact h
theorem chainF_kn {hv : List R2} (l : List ByteArray) {S : PS} (h : KnOut hv S) : KnOut hv (chainF l S).2 := by
  induction l with
  | nil => exact h
  | cons x l ih => rw [chainF_cons]; exact putS_kn ih _ _
theorem chainsF_kn {hv : List R2} : ∀ (l : List R2) {S : PS}, KnOut hv S → KnOut hv (chainsF l S).2
  | [], S, h => h
  | r :: t, S, h => by
    rw [chainsF_cons]
    split
    · exact chainsF_kn t (chainF_kn _ h)
    · exact chainsF_kn t h
theorem slotsF_kn {hv : List R2} : ∀ (l : List (List C4)) {S : PS}, KnOut hv S → KnOut hv (slotsF l S).2
  | [], S, h => h
  | x :: t, S, h => by
    rw [slotsF_cons]
    split
    · exact slotsF_kn t (putS_kn h _ _)
    · exact slotsF_kn t h
theorem planZ_kn (l hv : List R2) (fr : List Int) : KnOut hv (planZ l hv fr).2 :=
  putS_kn (slotsF_kn _ (chainsF_kn (S := ⟨knF hv, fr, [], 0⟩) _ (show knF hv = knF (hv ++ []) by rw [List.append_nil]))) _ _
theorem planE_ok {l hv : List R2} {fr : List Int} (h : (planE l hv fr).2.2 = 0) : rightF (-1) l = true ∧ mayE (hv.map (·.1)) fr = true ∧ ¬ 21 < (lvs [] (l.map (cellE · 2))).length ∧ (planZ l hv fr).2.e = 0 ∧ planE l hv fr = ((planZ l hv fr).2.out, (planZ l hv fr).1, 0) := by
  unfold planE at h ⊢
  by_cases h1 : (rightF (-1) l && mayE (hv.map (·.1)) fr) = true
  · rw [if_pos h1] at h ⊢
    rw [Bool.and_eq_true] at h1
    by_cases h2 : 21 < (lvs [] (l.map (cellE · 2))).length
    · rw [if_pos h2] at h; exact absurd h (by decide)
    · rw [if_neg h2] at h ⊢
      by_cases h3 : (planZ l hv fr).2.e = 0
      · rw [if_pos h3]; exact ⟨h1.1, h1.2, h2, h3, rfl⟩
      · rw [if_neg h3] at h; exact absurd h h3
  · rw [if_neg h1] at h; exact absurd h (by decide)
theorem planE_no {l hv : List R2} {fr : List Int} (h : (planE l hv fr).2.2 ≠ 0) : (planE l hv fr).1 = [] ∧ (planE l hv fr).2.1 = 0 := by
  unfold planE at h ⊢
  split
  · rename_i h1
    rw [if_pos h1] at h
    split
    · exact ⟨rfl, rfl⟩
    · rename_i h2
      rw [if_neg h2] at h
      split
      · rename_i h3; rw [if_pos h3] at h; exact absurd rfl h
      · exact ⟨rfl, rfl⟩
  · exact ⟨rfl, rfl⟩
def pgs (n : Nat) : List Int := (List.range n).map fun (i : Nat) => (i : Int) + 2
theorem pgs_length (n : Nat) : (pgs n).length = n := by unfold pgs; simp
theorem pgs_snoc (n : Nat) : pgs (n + 1) = pgs n ++ [(n : Int) + 2] := by unfold pgs; rw [List.range_succ, List.map_append]; rfl
def needE (l : List R2) : Nat := (planE l [] (pgs 198)).1.length
theorem two_of {α : Type} : ∀ (o : List α), o.length = 2 → ∃ a b, o = [a, b]
  | [a, b], _ => ⟨a, b, rfl⟩
  | [], h => by simp at h
  | [_], h => by simp at h
  | _ :: _ :: _ :: _, h => by simp at h
def cnt (S : PS) : Nat := S.out.length + S.free.length
theorem putS_cnt (S : PS) (b : ByteArray) (is : Bool) : cnt (putS S b is) = cnt S := by
  unfold putS
  by_cases h0 : S.e = 0
  · rw [if_pos h0]
    cases is with
    | false => rfl
    | true =>
      rw [if_pos rfl]
      cases hk : S.known b with
      | some n => rfl
      | none =>
        cases hf : S.free with
        | nil => unfold cnt; rw [hf]
        | cons n fr => unfold cnt; rw [hf]; simp; omega
  · rw [if_neg h0]
theorem chainF_cnt (l : List ByteArray) (S : PS) : cnt (chainF l S).2 = cnt S := by
  induction l with
  | nil => rfl
  | cons x l ih => rw [chainF_cons]; exact (putS_cnt _ _ _).trans ih
theorem chainsF_cnt : ∀ (l : List R2) (S : PS), cnt (chainsF l S).2 = cnt S
  | [], S => rfl
  | r :: t, S => by
    rw [chainsF_cons]
    split
    · exact (chainsF_cnt t _).trans (chainF_cnt _ _)
    · exact chainsF_cnt t _
theorem slotsF_cnt : ∀ (l : List (List C4)) (S : PS), cnt (slotsF l S).2 = cnt S
  | [], S => rfl
  | x :: t, S => by
    rw [slotsF_cons]
    split
    · exact (slotsF_cnt t _).trans (putS_cnt _ _ _)
    · exact slotsF_cnt t _
theorem planZ_cnt (l hv : List R2) (fr : List Int) : cnt (planZ l hv fr).2 = fr.length := by
  refine (putS_cnt _ _ _).trans ((slotsF_cnt _ _).trans ((chainsF_cnt _ _).trans ?_))
  show ([] : List R2).length + fr.length = _
  simp
theorem planE_len (l hv : List R2) (fr : List Int) : (planE l hv fr).1.length ≤ fr.length := by
  by_cases h : (planE l hv fr).2.2 = 0
  · obtain ⟨_, _, _, _, h5⟩ := planE_ok h
    have := planZ_cnt l hv fr
    rw [h5]
    unfold cnt at this
    show (planZ l hv fr).2.out.length ≤ _
    omega
  · rw [(planE_no h).1]; exact Nat.zero_le _
theorem fullA_pad {l : List Int} (h : (fullA (strOfNums l)).2 = true) : (fullA (strOfNums l)).1 = strOfNums (pad l) := by
  rw [fullA_k] at h ⊢
  split
  · rfl
  · rename_i h2; rw [if_neg h2] at h; cases h
theorem putS_is {S : PS} {b : ByteArray} {is : Bool} (h : (putS S b is).e = 0) : is = true := by
  cases is with
  | true => rfl
  | false =>
    have h0 := putS_e h
    unfold putS at h
    rw [if_pos h0] at h
    exact absurd h (by show ¬ ((9 : Int) = 0); decide)
theorem putS_mem {S : PS} {b x : ByteArray} {is : Bool} (h : (putS S b is).known x ≠ none) : S.known x ≠ none ∨ (x = b ∧ is = true) := by
  unfold putS at h
  by_cases h0 : S.e = 0
  · rw [if_pos h0] at h
    cases is with
    | false => exact .inl h
    | true =>
      rw [if_pos rfl] at h
      cases hk : S.known b with
      | some n => rw [hk] at h; exact .inl h
      | none =>
        rw [hk] at h
        cases hf : S.free with
        | nil => rw [hf] at h; exact .inl h
        | cons n fr =>
          rw [hf] at h
          change upd S.known b n x ≠ none at h
          by_cases e : x = b
          · exact .inr ⟨e, rfl⟩
          · rw [upd_ne _ _ e] at h; exact .inl h
  · rw [if_neg h0] at h; exact .inl h
def kin : Int → List C4 → Prop
  | _, [] => True
  | lo, x :: t => lo < x.1 ∧ x.1 ≤ 2147483647 ∧ kin x.1 t
theorem kin_low : ∀ {l : List C4} {a b : Int}, a ≤ b → kin b l → kin a l
  | [], _, _, _, _ => trivial
  | x :: t, a, b, h, hk => ⟨by have := hk.1; omega, hk.2⟩
theorem kin_drop : ∀ {a b : List C4} {lo : Int}, kin lo (a ++ b) → kin lo b
  | [], b, lo, h => h
  | x :: a, b, lo, h => by
    have h2 : kin x.1 (a ++ b) := h.2.2
    exact kin_low (by have : lo < x.1 := h.1; omega) (kin_drop h2)
theorem chainsF_kin : ∀ (l : List R2) (S : PS) (a : Int), rightF a l = true → kin a (chainsF l S).1
  | [], S, a, _ => trivial
  | r :: t, S, a, h => by
    unfold rightF at h
    simp only [Bool.and_eq_true, decide_eq_true_eq] at h
    obtain ⟨h1, h2, h3, h4⟩ := h
    have hc : ∀ p, (cellE r p).1 = r.1 := fun p => by unfold cellE; split <;> rfl
    rw [chainsF_cons]
    split
    · exact ⟨by rw [hc]; exact h1, by rw [hc]; exact h2, by rw [hc]; exact chainsF_kin t _ _ h4⟩
    · exact ⟨by rw [hc]; exact h1, by rw [hc]; exact h2, by rw [hc]; exact chainsF_kin t _ _ h4⟩
def asc : Int → List (List C4) → Prop
  | _, [] => True
  | lo, x :: t => ∃ c r, x = c :: r ∧ lo < c.1 ∧ c.1 ≤ 2147483647 ∧ asc c.1 t
theorem lvs_asc : ∀ (r cur : List C4) (lo : Int), (∀ x ∈ r, cellOk x) → kin lo (cur ++ r) → asc lo (lvs cur r)
  | [], [], lo, _, _ => trivial
  | [], c :: t, lo, _, h => ⟨c, t, rfl, h.1, h.2.1, trivial⟩
  | c :: r, cur, lo, hok, h => by
    have hr : ∀ x ∈ r, cellOk x := fun x hx => hok x (List.mem_cons_of_mem _ hx)
    unfold lvs
    split
    · exact lvs_asc r _ lo hr (by rw [List.append_assoc]; exact h)
    · rename_i hn
      cases cur with
      | nil => exact absurd (leaf_one (hok c List.mem_cons_self)) hn
      | cons c0 t =>
        refine ⟨c0, t, rfl, h.1, h.2.1, lvs_asc r [c] c0.1 hr ?_⟩
        exact kin_drop (a := t) (b := [c] ++ r) h.2.2
theorem putS_grow (S : PS) (b : ByteArray) (is : Bool) : S.out.length ≤ (putS S b is).out.length := by
  unfold putS
  by_cases h0 : S.e = 0
  · rw [if_pos h0]
    cases is with
    | false => exact Nat.le_refl _
    | true =>
      rw [if_pos rfl]
      cases hk : S.known b with
      | some n => exact Nat.le_refl _
      | none =>
        cases hf : S.free with
        | nil => exact Nat.le_refl _
        | cons n fr => simp
  · rw [if_neg h0]; exact Nat.le_refl _
def Rk (m : Nat) (S T : PS) : Prop := T.e ≠ 0 ∧ (S.e = 0 → m < S.out.length)
theorem put_some {S : PS} {b : ByteArray} {n : Int} (he : S.e = 0) (hk : S.known b = some n) : putS S b true = S ∧ putN S b true = n := by
  unfold putS putN
  rw [if_pos he, if_pos rfl, hk, if_pos he, if_pos rfl]
  exact ⟨rfl, rfl⟩
theorem put_cons {S : PS} {b : ByteArray} {n : Int} {fr : List Int} (he : S.e = 0) (hk : S.known b = none) (hf : S.free = n :: fr) : putS S b true = { S with known := upd S.known b n, free := fr, out := S.out ++ [(n, b)] } ∧ putN S b true = n := by
  unfold putS putN
  rw [if_pos he, if_pos rfl, hk, hf, if_pos he, if_pos rfl]
  exact ⟨rfl, rfl⟩
theorem put_nil {S : PS} {b : ByteArray} (he : S.e = 0) (hk : S.known b = none) (hf : S.free = []) : putS S b true = { S with e := 8 } := by
  unfold putS
  rw [if_pos he, if_pos rfl, hk, hf]
theorem putS_stuck {T : PS} (h : T.e ≠ 0) (b : ByteArray) (is : Bool) : putS T b is = T := by unfold putS; rw [if_neg h]
theorem put_rk {m : Nat} {S T : PS} (h : Rk m S T) (b b2 : ByteArray) (is is2 : Bool) : Rk m (putS S b is) (putS T b2 is2) := by
  rw [putS_stuck h.1]
  refine ⟨h.1, fun he => ?_⟩
  have h1 := h.2 (putS_e he)
  have h2 := putS_grow S b is
  omega
theorem chain_rk (l : List ByteArray) {m : Nat} {S T : PS} (h : Rk m S T) : Rk m (chainF l S).2 (chainF l T).2 := by
  induction l with
  | nil => exact h
  | cons x l ih => rw [chainF_cons, chainF_cons]; exact put_rk ih _ _ _ _
theorem chains_rk : ∀ (l : List R2) {m : Nat} {S T : PS}, Rk m S T → Rk m (chainsF l S).2 (chainsF l T).2
  | [], _, _, _, h => h
  | r :: t, m, S, T, h => by
    rw [chainsF_cons, chainsF_cons]
    split
    · exact chains_rk t (chain_rk _ h)
    · exact chains_rk t h
theorem slots_grow : ∀ (l : List (List C4)) (S : PS), S.out.length ≤ (slotsF l S).2.out.length
  | [], S => Nat.le_refl _
  | x :: t, S => by
    rw [slotsF_cons]
    split
    · exact Nat.le_trans (putS_grow S _ _) (slots_grow t _)
    · exact slots_grow t S
theorem slots_stuck : ∀ (l : List (List C4)) {T : PS}, T.e ≠ 0 → (slotsF l T).2 = T
  | [], T, _ => rfl
  | x :: t, T, h => by rw [slotsF_cons, if_neg h]; exact slots_stuck t h
theorem slots_rk (l l2 : List (List C4)) {m : Nat} {S T : PS} (h : Rk m S T) : Rk m (slotsF l S).2 (slotsF l2 T).2 := by
  rw [slots_stuck l2 h.1]
  refine ⟨h.1, fun he => ?_⟩
  have h1 := h.2 (slotsF_e he)
  have h2 := slots_grow l S
  omega
theorem pgs_at {m i : Nat} (h : i < m) : (pgs m).getD i 0 = (i : Int) + 2 := by unfold pgs; simp [List.getD, h]
theorem pgs_mem {m : Nat} {x : Int} : x ∈ pgs m ↔ 2 ≤ x ∧ x < (m : Int) + 2 := by
  unfold pgs
  rw [List.mem_map]
  constructor
  · rintro ⟨i, hi, rfl⟩
    rw [List.mem_range] at hi
    omega
  · rintro ⟨h1, h2⟩
    exact ⟨(x - 2).toNat, by rw [List.mem_range]; omega, by omega⟩
theorem pgs_take {m i : Nat} (h : i ≤ m) : (pgs m).take i = pgs i := by
  unfold pgs
  rw [← List.map_take, List.take_range, Nat.min_eq_left h]
theorem pgs_may {m : Nat} (h : m ≤ 198) : mayE [] (pgs m) = true := by
  unfold mayE frOk
  rw [Bool.and_eq_true]
  constructor
  · rw [List.all_eq_true]
    intro i hi
    rw [List.mem_range, pgs_length] at hi
    rw [pgs_at hi, pgs_take (Nat.le_of_lt hi)]
    simp only [Bool.and_eq_true, Bool.not_eq_true', decide_eq_false_iff_not]
    refine ⟨by simp, fun hm => ?_⟩
    have := pgs_mem.1 hm
    omega
  · rw [Bool.not_eq_true', List.nil_append, List.any_eq_false]
    intro x hx
    have := pgs_mem.1 hx
    unfold badP
    simp only [Bool.or_eq_true, decide_eq_true_eq]
    omega
theorem planE_err (l hv : List R2) (fr : List Int) : (planE l hv fr).2.2 = 0 ∨ (planE l hv fr).2.2 = 8 ∨ (planE l hv fr).2.2 = 9 ∨ (planE l hv fr).2.2 = 12 := by
  have hp : ∀ (S : PS) b is, S.e = 0 ∨ S.e = 8 ∨ S.e = 9 → (putS S b is).e = 0 ∨ (putS S b is).e = 8 ∨ (putS S b is).e = 9 := by
    intro S b is h
    unfold putS
    repeat' split
    all_goals first | exact h | exact .inr (.inl rfl) | exact .inr (.inr rfl)
  have hc : ∀ (l : List ByteArray) (S : PS), S.e = 0 ∨ S.e = 8 ∨ S.e = 9 → (chainF l S).2.e = 0 ∨ (chainF l S).2.e = 8 ∨ (chainF l S).2.e = 9 := by
    intro l S h
    induction l with
    | nil => exact h
    | cons x l ih => rw [chainF_cons]; exact hp _ _ _ ih
  have hcs : ∀ (l : List R2) (S : PS), S.e = 0 ∨ S.e = 8 ∨ S.e = 9 → (chainsF l S).2.e = 0 ∨ (chainsF l S).2.e = 8 ∨ (chainsF l S).2.e = 9 := by
    intro l
    induction l with
    | nil => intro S h; exact h
    | cons x l ih =>
      intro S h
      rw [chainsF_cons]
      split
      · exact ih _ (hc _ _ h)
      · exact ih _ h
  have hs : ∀ (l : List (List C4)) (S : PS), S.e = 0 ∨ S.e = 8 ∨ S.e = 9 → (slotsF l S).2.e = 0 ∨ (slotsF l S).2.e = 8 ∨ (slotsF l S).2.e = 9 := by
    intro l
    induction l with
    | nil => intro S h; exact h
    | cons x l ih =>
      intro S h
      rw [slotsF_cons]
      split
      · exact ih _ (hp _ _ _ h)
      · exact ih _ h
  have hz : (planZ l hv fr).2.e = 0 ∨ (planZ l hv fr).2.e = 8 ∨ (planZ l hv fr).2.e = 9 := hp _ _ _ (hs _ _ (hcs _ _ (.inl rfl)))
  unfold planE
  split
  · split
    · exact .inr (.inr (.inr rfl))
    · split
      · exact .inl rfl
      · rcases hz with h | h | h
        · exact .inl h
        · exact .inr (.inl h)
        · exact .inr (.inr (.inl h))
  · exact .inr (.inr (.inl rfl))
def shC (x : C4) : Int × Int × ByteArray × Bool := (x.1, x.2.1, x.2.2.2, okR x.2.1 x.2.2.1 x.2.2.2)
theorem shC_at {l m : List C4} (h : l.map shC = m.map shC) (i : Nat) : shC (atC l i) = shC (atC m i) := by
  have := congrArg (fun z => z[i]?) h
  simp only [List.getElem?_map] at this
  unfold atC
  rw [List.getD_eq_getElem?_getD, List.getD_eq_getElem?_getD]
  have e : ∀ z : Option C4, shC (z.getD zC) = (z.map shC).getD (shC zC) := fun z => by cases z <;> rfl
  rw [e, e, this]
theorem fullA_two (s : ByteArray) : (fullA s).2 = decide (s.size ≤ 128) := by
  unfold fullA
  split
  · rw [decide_eq_true (by assumption)]
  · rw [decide_eq_false (by assumption)]
theorem lfT_len (s p : Int) : (lfT s p).length = if 24 < s then 2 else 0 := by
  unfold lfT
  split
  · rw [byL_length]
  · rfl
theorem leafE_same {l m : List C4} (h : l.map shC = m.map shC) : (leafE l).2 = (leafE m).2 := by
  have hl : l.length = m.length := by have := congrArg List.length h; simpa using this
  have ha := fun i => shC_at h i
  have a1 : ∀ i, (atC l i).1 = (atC m i).1 := fun i => congrArg (·.1) (ha i)
  have a2 : ∀ i, (atC l i).2.1 = (atC m i).2.1 := fun i => congrArg (·.2.1) (ha i)
  have a3 : ∀ i, (atC l i).2.2.2 = (atC m i).2.2.2 := fun i => congrArg (·.2.2.1) (ha i)
  have a4 : ∀ i, okR (atC l i).2.1 (atC l i).2.2.1 (atC l i).2.2.2 = okR (atC m i).2.1 (atC m i).2.2.1 (atC m i).2.2.2 := fun i => congrArg (·.2.2.2) (ha i)
  have hv : lfV (fun i => (atC l i.toNat).1) (fun i => (atC l i.toNat).2.1) (fun i => (atC l i.toNat).2.2.1) (fun i => (atC l i.toNat).2.2.2) m.length = lfV (fun i => (atC m i.toNat).1) (fun i => (atC m i.toNat).2.1) (fun i => (atC m i.toNat).2.2.1) (fun i => (atC m i.toNat).2.2.2) m.length := by
    unfold lfV ahK
    congr 1
    funext j
    simp only [a1, a4]
  have hb : (lfB (fun i => (atC l i.toNat).1) (fun i => (atC l i.toNat).2.1) (fun i => (atC l i.toNat).2.2.1) (fun i => (atC l i.toNat).2.2.2) m.length m.length).length = (lfB (fun i => (atC m i.toNat).1) (fun i => (atC m i.toNat).2.1) (fun i => (atC m i.toNat).2.2.1) (fun i => (atC m i.toNat).2.2.2) m.length m.length).length := by
    unfold lfB
    rw [List.length_append, List.length_append, List.length_flatten, List.length_flatten, List.map_map, List.map_map]
    congr 2
    apply List.map_congr_left
    intro j _
    simp only [Function.comp, List.length_append, byL_length, bytesOf_len, lfT_len, a2, a3]
  unfold leafE lfA
  rw [hl, hv]
  split
  · split
    · rw [fullA_two, fullA_two, strOfNums_size, strOfNums_size, hb]
    · rfl
  · rfl
theorem lvs_same : ∀ (r s cur cus : List C4), r.map shC = s.map shC → cur.map shC = cus.map shC → (lvs cur r).length = (lvs cus s).length
  | [], [], cur, cus, _, h => by
    unfold lvs
    cases cur <;> cases cus
    · rfl
    · cases h
    · cases h
    · rfl
  | [], _ :: _, _, _, h, _ => by cases h
  | _ :: _, [], _, _, h, _ => by cases h
  | x :: r, y :: s, cur, cus, h, h2 => by
    rw [List.map_cons, List.map_cons] at h
    injection h with hx hr
    have h3 : (cur ++ [x]).map shC = (cus ++ [y]).map shC := by rw [List.map_append, List.map_append, h2]; show _ ++ [shC x] = _ ++ [shC y]; rw [hx]
    unfold lvs
    rw [leafE_same h3]
    split
    · exact lvs_same r s _ _ hr h3
    · rw [List.length_cons, List.length_cons, lvs_same r s [x] [y] hr (by show [shC x] = [shC y]; rw [hx])]
theorem lvs_leaf : ∀ (r cur : List C4), (∀ x ∈ r, cellOk x) → (cur = [] ∨ (leafE cur).2 = true) → ∀ y ∈ lvs cur r, (leafE y).2 = true
  | [], cur, _, h, y, hy => by
    unfold lvs at hy
    cases cur with
    | nil => cases hy
    | cons a t =>
      rw [List.mem_singleton] at hy
      rw [hy]
      rcases h with h | h
      · cases h
      · exact h
  | c :: r, cur, hok, h, y, hy => by
    have hr : ∀ x ∈ r, cellOk x := fun x hx => hok x (List.mem_cons_of_mem _ hx)
    have h1 := leaf_one (hok c List.mem_cons_self)
    unfold lvs at hy
    split at hy
    · rename_i hn
      exact lvs_leaf r _ hr (.inr hn) y hy
    · rename_i hn
      rcases List.mem_cons.1 hy with rfl | hy
      · rcases h with rfl | h
        · exact absurd h1 hn
        · exact h
      · exact lvs_leaf r [c] hr (.inr h1) y hy
def kinS : Int → List S2 → Prop
  | _, [] => True
  | lo, x :: t => lo < x.1 ∧ x.1 ≤ 2147483647 ∧ okP x.2 = true ∧ kinS x.1 t
theorem kinS_at : ∀ (l : List S2) (lo : Int), kinS lo l → ∀ j, j < l.length → (if j = 0 then lo else (atS l (j - 1)).1) < (atS l j).1 ∧ (atS l j).1 ≤ 2147483647 ∧ okP (atS l j).2 = true
  | [], _, _, j, hj => by simp at hj
  | x :: t, lo, h, 0, _ => ⟨h.1, h.2.1, h.2.2.1⟩
  | x :: t, lo, h, j + 1, hj => by
    have := kinS_at t x.1 h.2.2.2 j (by simp at hj; omega)
    rw [if_neg (by omega)]
    refine ⟨?_, this.2⟩
    have h1 := this.1
    cases j with
    | zero => exact h1
    | succ j => exact h1
theorem index_ok {l : List S2} (h : kinS (-1) l) (hl : l.length ≤ 21) : (indexE l).2 = true := by
  unfold indexE idxA
  have hv : idxV (fun i => (atS l i.toNat).1) (fun i => (atS l i.toNat).2) l.length = true := by
    unfold idxV ahK
    rw [all_at]
    intro j hj
    obtain ⟨h1, h2, h3⟩ := kinS_at l (-1) h j hj
    simp only [Int.toNat_natCast]
    rw [h3, Bool.and_true]
    unfold okK
    rw [Bool.and_eq_true, decide_eq_true_eq, decide_eq_true_eq]
    refine ⟨?_, h2⟩
    by_cases hj0 : j = 0
    · subst hj0; exact h1
    · rw [if_neg hj0] at h1
      rw [if_neg (by omega), show ((j : Int) - 1).toNat = j - 1 by omega]
      exact h1
  rw [if_pos hl, if_pos hv, fullA_two, strOfNums_size]
  have : (idxB (fun i => (atS l i.toNat).1) (fun i => (atS l i.toNat).2) l.length l.length).length ≤ 128 := by
    unfold idxB
    rw [List.length_append, List.length_flatten, List.map_map]
    have h6 : (List.range l.length).map (List.length ∘ fun (i : Nat) => byL (atS l (i : Int).toNat).1 4 4 ++ byL (atS l (i : Int).toNat).2 2 2) = (List.range l.length).map fun _ => 6 := by
      apply List.map_congr_left
      intro j _
      simp [byL_length]
    rw [h6, List.map_const', List.sum_replicate_nat, List.length_range]
    simp
    omega
  rw [decide_eq_true this]
def Gd (f k : Nat) (S : PS) : Prop := PgOk S ∧ ((S.e = 0 ∧ f ≤ S.free.length + k) ∨ (S.e = 8 ∧ f ≤ k))
theorem Gd.e {f k : Nat} {S : PS} (h : Gd f k S) : S.e = 0 ∨ S.e = 8 := h.2.imp (·.1) (·.1)
theorem Gd.put {f k : Nat} {S : PS} (h : Gd f k S) (b : ByteArray) (is : Bool) (hi : S.e = 0 → is = true) : Gd f (k + 1) (putS S b is) := by
  refine ⟨putS_pg h.1 b is, ?_⟩
  rcases h.2 with ⟨h1, h2⟩ | ⟨h1, h2⟩
  · obtain rfl := hi h1
    cases hk : S.known b with
    | some n => rw [(put_some h1 hk).1]; exact .inl ⟨h1, by omega⟩
    | none =>
      cases hf : S.free with
      | nil =>
        rw [put_nil h1 hk hf]
        rw [hf] at h2
        exact .inr ⟨rfl, by simp at h2; omega⟩
      | cons n fr =>
        rw [(put_cons h1 hk hf).1]
        rw [hf] at h2
        exact .inl ⟨h1, by simp at h2 ⊢; omega⟩
  · rw [putS_stuck (by rw [h1]; decide)]
    exact .inr ⟨h1, by omega⟩
theorem chA_ok {nx : Int} {x : ByteArray} (h1 : nx = 0 ∨ okP nx = true) (h2 : 1 ≤ x.size) (h3 : x.size ≤ 120) : (chA nx x).2 = true := by
  have : chOk nx x = true := by
    unfold chOk
    rcases h1 with rfl | h1
    · simp; omega
    · rw [h1]; simp; omega
  unfold chA
  rw [if_pos this]
theorem Gd.chain : ∀ (l : List ByteArray) {f k : Nat} {S : PS}, Gd f k S → (∀ x ∈ l, 1 ≤ x.size ∧ x.size ≤ 120) → Gd f (k + l.length) (chainF l S).2 ∧ ((chainF l S).2.e = 0 → (chainF l S).1 = 0 ∨ okP (chainF l S).1 = true)
  | [], f, k, S, h, _ => ⟨h, fun _ => .inl rfl⟩
  | x :: t, f, k, S, h, hx => by
    obtain ⟨h1, h2⟩ := Gd.chain t h (fun y hy => hx y (List.mem_cons_of_mem _ hy))
    obtain ⟨x1, x2⟩ := hx x List.mem_cons_self
    rw [chainF_cons]
    have hi : (chainF t S).2.e = 0 → (chA (chainF t S).1 x).2 = true := fun he => chA_ok (h2 he) x1 x2
    exact ⟨h1.put _ _ hi, fun he => .inr (putN_pg h1.1 _ _ he)⟩
theorem pieces_few {b : ByteArray} (h : b.size ≤ 900) : (pieces b).length ≤ 8 := by
  have := piecesF_len b.size b
  unfold pieces
  omega
theorem Gd.mono {f k j : Nat} {S : PS} (h : Gd f k S) (hk : k ≤ j) : Gd f j S := ⟨h.1, h.2.imp (fun h => ⟨h.1, by omega⟩) (fun h => ⟨h.1, by omega⟩)⟩
theorem Gd.chains : ∀ (l : List R2) {f k : Nat} {S : PS}, Gd f k S → (∀ r ∈ l, r.2.size ≤ 900) → Gd f (k + 8 * l.length) (chainsF l S).2
  | [], f, k, S, h, _ => h
  | r :: t, f, k, S, h, hr => by
    rw [chainsF_cons, List.length_cons]
    have h1 := hr r List.mem_cons_self
    have ht := fun y hy => hr y (List.mem_cons_of_mem _ hy)
    split
    · have h2 := (Gd.chain (pieces r.2) h (fun x hx => piecesF_size _ _ x hx)).1
      have h3 := Gd.chains t (h2.mono (show _ ≤ k + 8 by have := pieces_few h1; omega)) ht
      exact h3.mono (by omega)
    · exact (Gd.chains t h ht).mono (by omega)
theorem Gd.slots : ∀ (L : List (List C4)) {f k : Nat} {S : PS} {lo : Int}, Gd f k S → (∀ y ∈ L, (leafE y).2 = true) → asc lo L → Gd f (k + L.length) (slotsF L S).2 ∧ ((slotsF L S).2.e = 0 → kinS lo (slotsF L S).1 ∧ (slotsF L S).1.length = L.length)
  | [], f, k, S, lo, h, _, _ => ⟨h, fun _ => ⟨trivial, rfl⟩⟩
  | x :: t, f, k, S, lo, h, hy, ha => by
    obtain ⟨c, r, rfl, hc1, hc2, ha⟩ := ha
    have ht := fun y h => hy y (List.mem_cons_of_mem _ h)
    have hx := hy _ List.mem_cons_self
    rw [slotsF_cons, List.length_cons]
    split
    · rename_i he
      obtain ⟨h1, h2⟩ := Gd.slots t (h.put (leafE (c :: r)).1 (leafE (c :: r)).2 (fun _ => hx)) ht ha
      refine ⟨h1.mono (by omega), fun hz => ?_⟩
      obtain ⟨h3, h4⟩ := h2 hz
      refine ⟨⟨hc1, hc2, putN_pg h.1 _ _ (slotsF_e hz), h3⟩, ?_⟩
      show (slotsF t _).1.length + 1 = _
      rw [h4]
    · rename_i he
      obtain ⟨h1, h2⟩ := Gd.slots t h ht ha
      exact ⟨h1.mono (by omega), fun hz => absurd (slotsF_e hz) he⟩
theorem plan_end {l hv : List R2} {fr : List Int} (h1 : rightF (-1) l = true) (h2 : mayE (hv.map (·.1)) fr = true) (h3 : ¬ 21 < (lvs [] (l.map (cellE · 2))).length) :
    Gd fr.length (8 * l.length + (lvs [] (l.map (cellE · 2))).length + 1) (planZ l hv fr).2 := by
  obtain ⟨pv, pf⟩ := mayE_pg h2
  have hpv : ∀ x ∈ hv, okP x.1 = true := fun x hx => pv _ (List.mem_map_of_mem hx)
  have hr := rightF_mem l (-1) (by omega) h1
  have g0 : Gd fr.length 0 (⟨knF hv, fr, [], 0⟩ : PS) := ⟨⟨knF_pg hpv, pf⟩, .inl ⟨rfl, Nat.le_refl _⟩⟩
  have g1 : Gd fr.length (8 * l.length) (planS l hv fr) := (Gd.chains l g0 (fun r h => (hr r h).2.2)).mono (by omega)
  rcases g1.e with he | he
  · have hok : ∀ x ∈ planC l hv fr, cellOk x := chainsF_ok l ⟨knF hv, fr, [], 0⟩ ⟨knF_pg hpv, pf⟩ hr he
    have hsh : (planC l hv fr).map shC = (l.map (cellE · 2)).map shC := by
      have H : ∀ (l : List R2) (S : PS), (∀ r ∈ l, -1 < r.1 ∧ r.1 ≤ 2147483647 ∧ r.2.size ≤ 900) → (∀ x ∈ (chainsF l S).1, cellOk x) → (chainsF l S).1.map shC = (l.map (cellE · 2)).map shC := by
        intro l
        induction l with
        | nil => intro S _ _; rfl
        | cons r t ih =>
          intro S hr hx
          have hc : ∀ p, cellOk (cellE r p) → shC (cellE r p) = shC (cellE r 2) := by
            intro p hp
            have hr1 := hr r List.mem_cons_self
            have h2 := cellE_ok (p := 2) hr1.1 hr1.2.1 hr1.2.2 (fun _ => by decide)
            have e1 : okR (cellE r p).2.1 (cellE r p).2.2.1 (cellE r p).2.2.2 = true := hp.2
            have e2 : okR (cellE r 2).2.1 (cellE r 2).2.2.1 (cellE r 2).2.2.2 = true := h2.2
            unfold shC
            rw [e1, e2]
            unfold cellE
            split <;> rfl
          rw [chainsF_cons] at hx ⊢
          split
          · rename_i h24
            rw [if_pos h24] at hx
            rw [List.map_cons, List.map_cons, List.map_cons, hc _ (hx _ List.mem_cons_self), ih _ (fun y hy => hr y (List.mem_cons_of_mem _ hy)) (fun y hy => hx y (List.mem_cons_of_mem _ hy))]
          · rename_i h24
            rw [if_neg h24] at hx
            rw [List.map_cons, List.map_cons, List.map_cons, ih _ (fun y hy => hr y (List.mem_cons_of_mem _ hy)) (fun y hy => hx y (List.mem_cons_of_mem _ hy))]
      exact H l _ hr hok
    have hlen := lvs_same (planC l hv fr) (l.map (cellE · 2)) [] [] hsh rfl
    obtain ⟨g2, g3⟩ := Gd.slots (lvs [] (planC l hv fr)) (lo := -1) g1 (lvs_leaf _ _ hok (.inl rfl)) (lvs_asc _ [] (-1) hok (chainsF_kin l _ (-1) h1))
    rw [hlen] at g2
    have g4 : Gd fr.length (8 * l.length + (lvs [] (l.map (cellE · 2))).length) (planT l hv fr).2 := g2
    refine g4.put _ _ (fun hz => ?_)
    obtain ⟨g5, g6⟩ := g3 hz
    refine index_ok g5 ?_
    rw [show (planT l hv fr).1.length = (lvs [] (planC l hv fr)).length from g6, hlen]
    omega
  · have h8 : ∀ (L : List (List C4)) (S : PS), S.e = 8 → (slotsF L S).2 = S := fun L S h => slots_stuck L (by rw [h]; decide)
    have e1 : (planT l hv fr).2 = planS l hv fr := h8 _ _ he
    have e2 : (planZ l hv fr).2 = planS l hv fr := by
      unfold planZ
      rw [e1]
      exact putS_stuck (by rw [he]; decide) _ _
    rw [e2]
    exact g1.mono (by omega)
theorem plan_fits {l hv : List R2} {fr : List Int} (h1 : rightF (-1) l = true) (h2 : mayE (hv.map (·.1)) fr = true) (h3 : ¬ 21 < (lvs [] (l.map (cellE · 2))).length) (h4 : 8 * l.length + 22 < fr.length) : (planE l hv fr).2.2 = 0 := by
  have hg := plan_end h1 h2 h3
  have he : (planZ l hv fr).2.e = 0 := by
    rcases hg.2 with h | h
    · exact h.1
    · omega
  unfold planE
  have hA : (rightF (-1) l && mayE (List.map (fun x => x.1) hv) fr) = true := by rw [h1, h2]; rfl
  rw [if_pos hA, if_neg h3, if_pos he]
def Con (ld : Ld) (S : FS) : Prop := ∀ n b, S.pages n = some b → ld n = (b, 0)
def Seen (S S' : FS) (P : Int → ByteArray → Prop) : Prop := ∀ n b, S'.pages n = some b ↔ S.pages n = some b ∨ P n b
def Went (ld : Ld) (S S' : FS) (P : Int → ByteArray → Prop) : Prop := S'.e = 0 ∧ S'.out = S.out ∧ Con ld S' ∧ Seen S S' P
theorem Seen.trans {A B C : FS} {P Q : Int → ByteArray → Prop} (h : Seen A B P) (h2 : Seen B C Q) : Seen A C (fun n b => P n b ∨ Q n b) := fun n b => by rw [h2 n b, h n b, or_assoc]
theorem Seen.refl (S : FS) : Seen S S (fun _ _ => False) := fun n b => by simp
theorem Went.trans {ld : Ld} {A B C : FS} {P Q : Int → ByteArray → Prop} (h : Went ld A B P) (h2 : Went ld B C Q) : Went ld A C (fun n b => P n b ∨ Q n b) := ⟨h2.1, h2.2.1.trans h.2.1, h2.2.2.1, h.2.2.2.trans h2.2.2.2⟩
theorem Went.congr {ld : Ld} {A B : FS} {P Q : Int → ByteArray → Prop} (h : Went ld A B P) (hp : ∀ n b, P n b ↔ Q n b) : Went ld A B Q := ⟨h.1, h.2.1, h.2.2.1, fun n b => by rw [h.2.2.2 n b, hp]⟩
theorem fPage_good {ld : Ld} {S : FS} {n : Int} {b : ByteArray} (hl : ld n = (b, 0)) (he : S.e = 0) (hc : Con ld S) : (fPage ld S n).1 = b ∧ Went ld S (fPage ld S n).2 (fun m c => m = n ∧ c = b) := by
  unfold fPage
  cases hp : S.pages n with
  | some c =>
    have := hc n c hp
    rw [hl] at this
    injection this with this
    subst this
    refine ⟨rfl, he, rfl, hc, fun m x => ⟨.inl, fun h => h.elim id ?_⟩⟩
    rintro ⟨rfl, rfl⟩
    exact hp
  | none =>
    show (if S.e = 0 then _ else _ : ByteArray × FS).1 = b ∧ Went ld S (if S.e = 0 then _ else _ : ByteArray × FS).2 _
    rw [if_pos he, if_pos (by rw [hl]), hl]
    refine ⟨rfl, he, rfl, fun m x hx => ?_, fun m x => ?_⟩
    · change upd S.pages n b m = some x at hx
      by_cases e : m = n
      · rw [e, upd_same] at hx
        injection hx with hx
        rw [e, ← hx]; exact hl
      · rw [upd_ne _ _ e] at hx
        exact hc m x hx
    · show upd S.pages n b m = some x ↔ _
      by_cases e : m = n
      · rw [e, upd_same, hp]
        constructor
        · intro h; injection h with h; exact .inr ⟨rfl, h.symm⟩
        · rintro (h | ⟨_, h⟩)
          · cases h
          · rw [h]
      · rw [upd_ne _ _ e]
        constructor
        · exact .inl
        · rintro (h | ⟨h, _⟩)
          · exact h
          · exact absurd h e
theorem put_known {S : PS} {b : ByteArray} {is : Bool} (h : (putS S b is).e = 0) : (putS S b is).known b = some (putN S b is) := by
  obtain rfl := putS_is h
  have h0 := putS_e h
  cases hk : S.known b with
  | some n => rw [(put_some h0 hk).1, (put_some h0 hk).2]; exact hk
  | none =>
    cases hf : S.free with
    | nil => rw [put_nil h0 hk hf] at h; exact absurd h (by show ¬ (8 : Int) = 0; decide)
    | cons n fr => rw [(put_cons h0 hk hf).1, (put_cons h0 hk hf).2]; exact upd_same _ _ _
def chainB : List ByteArray → PS → List ByteArray
  | [], _ => []
  | x :: t, S => (chA (chainF t S).1 x).1 :: chainB t S
def LdK (ld : Ld) (K : ByteArray → Option Int) : Prop := ∀ b n, K b = some n → ld n = (b, 0)
def okPcs : List ByteArray → Nat → Prop
  | [], s => s = 0
  | x :: t, s => 0 < s ∧ x.size = min s 120 ∧ okPcs t (s - min s 120)
theorem okPcs_pieces (n : Nat) : ∀ b : ByteArray, b.size ≤ n → okPcs (piecesF n b) b.size := by
  induction n with
  | zero => intro b h; show b.size = 0; omega
  | succ n ih =>
    intro b h
    unfold piecesF
    split
    · rename_i h0; exact h0
    · rename_i h0
      refine ⟨by omega, by rw [ByteArray.size_extract]; omega, ?_⟩
      have := ih (b.extract (min b.size 120) b.size) (by rw [ByteArray.size_extract]; omega)
      rw [ByteArray.size_extract] at this
      rw [show b.size - min b.size 120 = min b.size b.size - min b.size 120 by omega]
      exact this
def cat : List ByteArray → ByteArray
  | [] => ⟨#[]⟩
  | x :: t => x ++ cat t
theorem cat_pieces (n : Nat) : ∀ b : ByteArray, b.size ≤ n → cat (piecesF n b) = b := by
  induction n with
  | zero =>
    intro b h
    have : b.size = 0 := by omega
    exact (ByteArray.size_eq_zero_iff.1 this).symm
  | succ n ih =>
    intro b h
    unfold piecesF
    split
    · rename_i h0
      exact (ByteArray.size_eq_zero_iff.1 h0).symm
    · rename_i h0
      show b.extract 0 (min b.size 120) ++ cat (piecesF n (b.extract (min b.size 120) b.size)) = b
      rw [ih _ (by rw [ByteArray.size_extract]; omega), ByteArray.extract_append_extract]
      simp
theorem linkE_back {nx : Int} {x : ByteArray} (h : (chA nx x).2 = true) : linkE (chA nx x).1 = (nx, x, true) := by
  have hc : chOk nx x = true := by
    cases hc : chOk nx x with
    | true => rfl
    | false => unfold chA at h; rw [hc, if_neg (by decide)] at h; cases h
  have e : (chA nx x).1 = strOfNums (pad (chL nx x)) := by unfold chA; rw [if_pos hc]
  rw [e]
  unfold linkE
  rw [PRd.link_back hc 12 (Nat.le_refl _)]
  rfl
theorem ba_append_assoc (a b c : ByteArray) : a ++ b ++ c = a ++ (b ++ c) := ByteArray.append_assoc
theorem chain_read {ld : Ld} {K : ByteArray → Option Int} (hK : LdK ld K) : ∀ (l : List ByteArray) (T : PS) (s k : Nat) (S : FS) (o : ByteArray), PgOk T → (chainF l T).2.e = 0 → Ext (chainF l T).2.known K → okPcs l s → l.length < k → S.e = 0 → Con ld S →
    (fChain k ld S (chainF l T).1 (s : Int) o).1 = o ++ cat l ∧ Went ld S (fChain k ld S (chainF l T).1 (s : Int) o).2 (fun n b => b ∈ chainB l T ∧ K b = some n)
  | [], T, s, k, S, o, hT, he, hx, hs, hk, h0, hc => by
    obtain ⟨k, rfl⟩ : ∃ m, k = m + 1 := ⟨k - 1, by omega⟩
    obtain rfl : s = 0 := hs
    rw [show fChain (k + 1) ld S (chainF [] T).1 ((0 : Nat) : Int) o = (o, S) from if_neg (fun h => absurd h.2 (by decide))]
    refine ⟨by show o = o ++ ⟨#[]⟩; exact (ByteArray.append_empty).symm, h0, rfl, hc, fun n b => ?_⟩
    constructor
    · exact .inl
    · rintro (h | ⟨h, _⟩)
      · exact h
      · cases h
  | x :: t, T, s, k, S, o, hT, he, hx, ⟨hs0, hs1, hs2⟩, hk, h0, hc => by
    obtain ⟨k, rfl⟩ : ∃ m, k = m + 1 := ⟨k - 1, by simp at hk; omega⟩
    rw [chainF_cons] at he hx ⊢
    have hkn := put_known he
    have hi := putS_is he
    have he1 := putS_e he
    have hK1 := hx _ _ hkn
    have hl := hK _ _ hK1
    obtain ⟨g1, g2⟩ := fPage_good hl h0 hc
    have hlk := linkE_back hi
    show (fChain (k + 1) ld S (putN (chainF t T).2 (chA (chainF t T).1 x).1 (chA (chainF t T).1 x).2) (s : Int) o).1 = _ ∧ Went ld S (fChain (k + 1) ld S (putN (chainF t T).2 (chA (chainF t T).1 x).1 (chA (chainF t T).1 x).2) (s : Int) o).2 _
    generalize hp : putN (chainF t T).2 (chA (chainF t T).1 x).1 (chA (chainF t T).1 x).2 = p at *
    have hnx : (chainF t T).1 = 0 ↔ s - min s 120 = 0 := by
      cases t with
      | nil => exact ⟨fun _ => hs2, fun _ => rfl⟩
      | cons y u =>
        have h9 : okP (chainF (y :: u) T).1 = true := by
          rw [chainF_cons] at he1 ⊢
          exact putN_pg (chainF_pg u hT) _ _ he1
        have h8 := PRd.okP_range h9
        have h7 := hs2.1
        constructor
        · intro h; omega
        · intro h; omega
    have hbad : badL (s : Int) ((chainF t T).1, x, true) = false := by
      unfold badL
      have e1 : (x.size : Int) = min (s : Int) 120 := by omega
      have e2 : ((chainF t T).1 == 0) = ((s : Int) - min (s : Int) 120 == 0) := by
        rw [Bool.eq_iff_iff, beq_iff_eq, beq_iff_eq, hnx]; omega
      show (!true || (((x.size : Int) != min (s : Int) 120) || (((chainF t T).1 == 0) != ((s : Int) - min (s : Int) 120 == 0)))) = false
      rw [e1, e2]; simp
    have hstep : fStep ld S p (s : Int) = (fPage ld S p).2 := by
      unfold fStep
      rw [g1, hlk, hbad, if_neg (by decide)]
    rw [show fChain (k + 1) ld S p (s : Int) o = fChain k ld (fStep ld S p (s : Int)) (linkE (fPage ld S p).1).1 ((s : Int) - min (s : Int) 120) (o ++ (linkE (fPage ld S p).1).2.1) from if_pos ⟨h0, by omega⟩]
    rw [hstep, g1, hlk, show (s : Int) - min (s : Int) 120 = ((s - min s 120 : Nat) : Int) by omega]
    have hx1 : Ext (chainF t T).2.known K := (putS_ext _ _ _).trans hx
    obtain ⟨r1, r2⟩ := chain_read hK t T (s - min s 120) k (fPage ld S p).2 (o ++ x) hT he1 hx1 hs2 (by simp at hk; omega) g2.1 g2.2.2.1
    refine ⟨?_, ?_⟩
    · rw [r1, ba_append_assoc]; rfl
    · refine (g2.trans r2).congr (fun n b => ?_)
      show _ ↔ b ∈ (chA (chainF t T).1 x).1 :: chainB t T ∧ K b = some n
      rw [List.mem_cons]
      constructor
      · rintro (⟨rfl, rfl⟩ | ⟨h1, h2⟩)
        · exact ⟨.inl rfl, hK1⟩
        · exact ⟨.inr h1, h2⟩
      · rintro ⟨h1 | h1, h2⟩
        · subst h1
          rw [hK1] at h2
          injection h2 with h2
          exact .inl ⟨h2.symm, rfl⟩
        · exact .inr ⟨h1, h2⟩
theorem T61 : ∀ q, q ∈ 151 :: kC.E → q ≠ 50 ∧ q ≠ 176 := by intro q hq; simp [kC, Kd.pair, Kd.int, Kd.string, Kd.scalar] at hq; omega
def FindR (w0 w : World) (g m : Nat) (L : Value) (S : FS) (w' : World) : Prop := (∃ v, IsFind w0 w' g m L v S) ∧ Kf w w' g
set_option maxHeartbeats 8000000 in
set_option maxRecDepth 100000 in
theorem fleaf_any {w0 w : World} {g m : Nat} {L v : Value} {ld : Ld} {S : FS} (HL : LdOk w0 L ld) (hs : LdSmall ld) (h : IsFind w0 w g m L v S) (hf : FOk S) (ho : S.out.length ≤ 100000) (kk pp : Int) (hp : wfI pp) :
    Calls Tryz.prog 111 #[.pointer (some ⟨g, 0, none⟩), .agg #[.int .i64 kk, .int .i64 pp]] w fun e w' => e = .returned (.tuple #[]) ∧ FindR w0 w g m L (fLeaf ld S (kk, pp)) w' := by
  have HLD := Aside0.mk HL
  have HSM := Aside0.mk hs
  have HF := Aside0.mk (h.step (below_alloc (Below.refl w.heap.size w) (.cells #[.int .i64 kk, .int .i64 pp] 165)))
  have HK := Aside0.mk (Kf.below (below_alloc (Below.refl w.heap.size w) (.cells #[.int .i64 kk, .int .i64 pp] 165)) g)
  have hP := page_any HL HF.out pp hp
  have hO := fPage_ok hs hf pp
  have hout := fPage_out ld S pp
  have hfl : fLeaf ld S (kk, pp) = if ((cellsE (fPage ld S pp).1).2 && okHd (cellsE (fPage ld S pp).1).1 kk) = true then fCells ld (cellsE (fPage ld S pp).1).1 (fPage ld S pp).2 else fForm (fPage ld S pp).2 := rfl
  obtain ⟨b, hb⟩ : ∃ b, b = (fPage ld S pp).1 := ⟨_, rfl⟩
  obtain ⟨S1, hS1⟩ : ∃ S1, S1 = (fPage ld S pp).2 := ⟨_, rfl⟩
  rw [← hb] at hP hO hfl
  rw [← hS1] at hP hO hfl hout
  rw [hfl]
  have hC := fun W => cells_any b W
  have hok := cellsE_ok b
  obtain ⟨cl, hcl⟩ : ∃ cl, cl = (cellsE b).1 := ⟨_, rfl⟩
  obtain ⟨is, his⟩ : ∃ is, is = (cellsE b).2 := ⟨_, rfl⟩
  rw [← hcl, ← his] at hC hok ⊢
  have HP := Aside0.mk hP
  have HC := Aside0.mk hC
  have HOK := Aside0.mk hok
  have HO := Aside0.mk (And.intro hO.1 (show S1.out.length ≤ 100000 by rw [hout]; exact ho))
  have HLT := Aside0.mk (show g < w.heap.size from by have := h.1; exact blk_lt this)
  obtain ⟨R, hR⟩ : ∃ R, R = (if (is && okHd cl kk) = true then fCells ld cl S1 else fForm S1) := ⟨_, rfl⟩
  rw [← hR]
  have HR := Aside0.mk hR
  clear HL hs h hf ho hp hP hO hout hfl hb hS1 hC hok hcl his hR
  go_enter Tryz.func111, Tryz.ntmps111
  go_upto_region 2 with (first
    | (go_at_call 109; (with_reducible refine (HP.out).mono ?_); rintro e w1 ⟨rfl, hf1, hk1⟩; have HF1 := Aside0.mk hf1; have hk9 := hk1.kf HF.out.2.2.2.1; have HK1 := Aside0.mk (HK.out.trans hk9); have hbx := hk9.2 w.heap.size #[.int .i64 kk, .int .i64 pp] 165 (by decide) (by have := HLT.out; omega) (MapKept.heap_alloc w _).1; clear hk9; have HX1 := Aside0.mk hbx; clear hf1 hk1 hbx HF HK HP)
    | (go_at_call 162; (with_reducible refine (HC.out _).mono ?_); rintro e w2 ⟨v0, rfl, hR2, hb2⟩; have HF2 := Aside0.mk (HF1.out.step hb2); have HK2 := Aside0.mk (HK1.out.trans (Kf.below hb2 g)); have HX2 := Aside0.mk ((hb2.block _ (blk_lt HX1.out)).trans HX1.out); have HR2 := Aside0.mk (Kd.R_lower hR2 (Nat.le_trans HF1.out.2.2.2.2.2.size (Nat.le_refl _))); clear hb2 hR2 HF1 HK1 HX1))
  obtain ⟨A, c, hv0⟩ := Kd.R_slice HR2.out
  subst hv0
  obtain ⟨n, hn⟩ : ∃ n, n = cl.length := ⟨_, rfl⟩
  have HN := Aside0.mk hn
  have hC2 := (Kd.R_reads' HR2.out).2.2
  rw [← hn] at hC2
  have hlen := HOK.out.1
  rw [← hn] at hlen
  rw [← hn] at HR2 ⊢
  have HC2 := Aside0.mk hC2
  have z0 : w2.cell? ⟨w.heap.size, 0, none⟩ = some (.int .i64 kk) := (blk_cell HX2.out 0).trans rfl
  obtain ⟨bd, hbd⟩ : ∃ bd, bd = !(is && okHd cl kk) := ⟨_, rfl⟩
  have HBD := Aside0.mk hbd
  clear hn hC2 hbd HC HLT
  go_cut [33] (fun v33 wc => v33 = .bool bd ∧ Aside0 (Below w2.heap.size w2 wc))
  case first =>
    have hbd := HBD.out
    cases is
    case false =>
      subst hbd
      clear z0
      go_quiet (fail)
      all_goals
        go_wp2
        go_meet
        exact ⟨rfl, ⟨by repeat (first | (with_reducible first | exact Below.refl _ _ | apply below_alloc | apply pw_below_drewN | apply below_drew1) | exact Below.refl _ _)⟩⟩
    case true =>
      by_cases h0 : n = 0
      · have e0 : cl = [] := List.eq_nil_of_length_eq_zero (by rw [← HN.out]; exact h0)
        rw [e0] at hbd
        change bd = true at hbd
        subst hbd
        have q1 : ((n : Int) == 0) = true := by simpa using h0
        have q2 : (n == 0) = true := by simpa using h0
        clear z0 h0 e0
        go_quiet (fail)
        all_goals
          go_wp2
          go_meet
          exact ⟨rfl, ⟨by repeat (first | (with_reducible first | exact Below.refl _ _ | apply below_alloc | apply pw_below_drewN | apply below_drew1) | exact Below.refl _ _)⟩⟩
      · obtain ⟨x, r, e0⟩ : ∃ x r, cl = x :: r := by
          cases hc : cl with
          | nil => exact absurd (by rw [HN.out, hc]; rfl) h0
          | cons x r => exact ⟨x, r, rfl⟩
        obtain ⟨ad, ea, x0, _⟩ := at_C HC2.out 0 (by omega)
        have e2 : (atC cl 0).1 = x.1 := by rw [e0]; rfl
        rw [e2] at x0
        have e3 : ad.add (0 * 4) = ad := by simp [Addr.add]
        rw [e3] at x0
        rw [e0] at hbd
        change bd = !(decide (x.1 = kk)) at hbd
        have q1 : ((n : Int) == 0) = false := by simpa using h0
        have q2 : (n == 0) = false := by simpa using h0
        have q3 : ((0 : Int) < (n : Int)) = True := eq_true (by omega)
        have q4 : (0 < n) = True := eq_true (by omega)
        have x1 : w2.cell? (ad.add 0) = some (.int .i64 x.1) := by rw [show ad.add 0 = ad by simp [Addr.add]]; exact x0
        subst ea
        have hq : (x.1 != kk) = bd := by rw [hbd]; by_cases h : x.1 = kk <;> simp [h]
        obtain ⟨xk, hxk⟩ : ∃ xk, xk = x.1 := ⟨_, rfl⟩
        rw [← hxk] at x0 x1 hq
        clear h0 e0 e2 e3 hbd hxk
        go_quiet (fail)
        all_goals
          go_wp2
          go_meet
          exact ⟨rfl, ⟨by repeat (first | (with_reducible first | exact Below.refl _ _ | apply below_alloc | apply pw_below_drewN | apply below_drew1) | exact Below.refl _ _)⟩⟩
  case rest =>
    obtain ⟨rfl, HB3⟩ := hcut
    have HF3 := Aside0.mk (HF2.out.step HB3.out)
    have HK3 := Aside0.mk (HK2.out.trans (Kf.below HB3.out g))
    have HR3 := Aside0.mk (Kd.R_below HR2.out HB3.out)
    have hbd := HBD.out
    have hR := HR.out
    clear HF2 HK2 HR2 HBD HX2 z0 HC2 HB3
    cases bd
    case true =>
      have hR2 : R = fForm S1 := by
        rw [hR, if_neg]
        intro h; rw [h] at hbd; exact absurd hbd (by decide)
      subst hR2
      clear hbd hR HR
      go_wp2_with (first | (go_at_call 110; (with_reducible refine (form_any HF3.out).mono ?_); rintro e w3 ⟨rfl, hf3, hk3⟩; have HF4 := Aside0.mk hf3; have HK4 := Aside0.mk (HK3.out.trans (hk3.kf HF3.out.2.2.2.1)); clear hf3 hk3))
      exact bodyPost_ret (v := .tuple #[]) (by simp [results, Tryz.results111, go_sem]) rfl ⟨rfl, ⟨_, HF4.out⟩, HK4.out⟩
    case false =>
      have hR2 : fCells ld cl S1 = R := by
        rw [hR, if_pos]
        cases h : (is && okHd cl kk) with
        | true => rfl
        | false => rw [h] at hbd; exact absurd hbd (by decide)
      have HRR := Aside0.mk hR2
      clear hbd hR HR hR2
      go_wp2_with (fail)
      go_loopg [38] n (fun kq v38 w' => ∃ (i : Nat) (v' : Value) (S' : FS), v38 = .int .i64 i ∧ Aside0 (i + kq = n) ∧ Aside0 (FOk S') ∧ Aside0 (S'.out.length + n ≤ 100128 + i) ∧ Aside0 (fCells ld (cl.drop i) S' = R) ∧ Aside0 (kC.R 151 w' w0.heap.size (fun _ => True) (.slice A n c) cl) ∧ Aside0 (IsFind w0 w' g m L v' S') ∧ Aside0 (Kf w w' g))
      case atStart => exact ⟨0, _, _, rfl, ⟨by omega⟩, ⟨HO.out.1⟩, ⟨by have := HO.out.2; omega⟩, HRR, HR3, HF3, HK3⟩
      case round =>
        clear HRR HR3 HF3 HK3 HO
        obtain ⟨i, v', S', rfl, HI, HO, HL, HRR, HR3, HF3, HK3⟩ := hrel
        cases gk with
        | zero =>
          have hi : i = n := by have := HI.out; omega
          subst hi
          have d1 : decide ((i : Int) < (i : Int)) = false := decide_eq_false (by omega)
          have d2 : decide (i < i) = false := decide_eq_false (by omega)
          have hR := HRR.out
          rw [List.drop_of_length_le (by have := HN.out; omega)] at hR
          change S' = R at hR
          subst hR
          go_wp2_with (fail)
          refine Go.Great.bodyPost_end0 rfl rfl ?_
          exact ⟨rfl, ⟨_, HF3.out⟩, HK3.out⟩
        | succ gk =>
          have hi : i < n := by have := HI.out; omega
          have d1 : decide ((i : Int) < (n : Int)) = true := decide_eq_true (by omega)
          have d2 : decide (i < n) = true := decide_eq_true hi
          have d3 : (i < n) = True := eq_true hi
          have d4 : ((i : Int) < (n : Int)) = True := eq_true (by omega)
          have d5 : (0 ≤ (i : Int)) = True := eq_true (by omega)
          have hil : i < cl.length := by have := HN.out; omega
          have hdr : cl.drop i = atC cl i :: cl.drop (i + 1) := by
            rw [List.drop_eq_getElem_cons hil]
            congr 1
            unfold atC
            rw [List.getD_eq_getElem?_getD, List.getElem?_eq_getElem hil]; rfl
          obtain ⟨ad, ea, x0, x1, x2, x3⟩ := at_C (Kd.R_reads' HR3.out).2.2 i (by rw [← (Kd.R_reads' HR3.out).1]; exact hi)
          have hgood := HOK.out.2.1 (atC cl i) (by
            unfold atC
            rw [List.getD_eq_getElem?_getD, List.getElem?_eq_getElem hil]
            exact List.getElem_mem hil)
          have hR := HRR.out
          rw [hdr] at hR
          obtain ⟨⟨k, sz, pg, by_⟩, hx⟩ : ∃ x, x = atC cl i := ⟨_, rfl⟩
          rw [← hx] at x0 x1 x2 x3 hgood hR
          have HG := Aside0.mk hgood
          have HR1 := Aside0.mk hR
          subst ea
          clear hgood hR hx hdr hil HRR
          simp only [] at x0 x1 x2 x3
          go_upto_region 7 with (fail)
          obtain ⟨w4, hw4⟩ : ∃ w4, w4 = wr.alloc (.cells #[.int .i64 k, .int .i64 sz, .int .i64 pg, .string by_] 151) := ⟨_, rfl⟩
          have HBA := Aside0.mk (below_alloc (Below.refl wr.heap.size wr) (.cells #[.int .i64 k, .int .i64 sz, .int .i64 pg, .string by_] 151))
          rw [← hw4] at HBA ⊢
          have HX4 := Aside0.mk (show w4.heap[wr.heap.size]? = some (.cells #[.int .i64 k, .int .i64 sz, .int .i64 pg, .string by_] 151 (0, 0)) from by rw [hw4]; exact (MapKept.heap_alloc wr _).1)
          have HF4 := Aside0.mk (HF3.out.step HBA.out)
          have HK4 := Aside0.mk (HK3.out.trans (Kf.below HBA.out g))
          have HR4 := Aside0.mk (Kd.R_below HR3.out HBA.out)
          have HGQ := Aside0.mk (show g ≠ wr.heap.size from by have := blk_lt HF3.out.1; omega)
          obtain ⟨q, hq⟩ : ∃ q, q = wr.heap.size := ⟨_, rfl⟩
          rw [← hq] at HX4 HGQ ⊢
          have HQ := Aside0.mk hq
          clear hw4 x0 x1 x2 x3 HF3 HK3 HR3 hq HBA
          obtain ⟨B, d, hv⟩ := Kd.R_slice HF4.out.2.2.2.2.1
          subst hv
          obtain ⟨on, hon⟩ : ∃ on, on = S'.out.length := ⟨_, rfl⟩
          have HON := Aside0.mk hon
          rw [← hon] at HF4
          have hol : on ≤ 100128 := by have := HL.out; omega
          obtain ⟨c0, c1, c2, c3⟩ := cell104 HF4.out.1
          obtain ⟨y0, y1, y2, y3⟩ : w4.cell? ⟨q, 0, none⟩ = some (.int .i64 k) ∧ w4.cell? ⟨q, 1, none⟩ = some (.int .i64 sz) ∧ w4.cell? ⟨q, 2, none⟩ = some (.int .i64 pg) ∧ w4.cell? ⟨q, 3, none⟩ = some (.string by_) := ⟨(blk_cell HX4.out 0).trans rfl, (blk_cell HX4.out 1).trans rfl, (blk_cell HX4.out 2).trans rfl, (blk_cell HX4.out 3).trans rfl⟩
          obtain ⟨lv, hlv⟩ : ∃ lv : Int, lv = (on : Int) - 1 := ⟨_, rfl⟩
          have HLV := Aside0.mk hlv
          clear hon hlv
          go_cut [8] (fun v8 wc => v8 = .int .i64 lv ∧ wc = w4)
          case first =>
            go_wp2_with (fail)
            go_meet
            exact ⟨by first | (rw [HLV.out]; done) | (rw [HLV.out]; rfl) | simp [HLV.out], rfl⟩
          case rest =>
            obtain ⟨rfl, rfl⟩ := hcut
            obtain ⟨bl, hbl⟩ : ∃ bl, bl = lastGe S'.out k := ⟨_, rfl⟩
            have HBL := Aside0.mk hbl
            clear hbl
            go_upto_region 8 with (fail)
            go_cut [62] (fun v62 wx => v62 = .bool bl ∧ Aside0 (Below wc.heap.size wc wx))
            case first =>
              by_cases h0 : on = 0
              · have hl1 : lv = -1 := by rw [HLV.out, h0]; rfl
                have hb0 : bl = false := by
                  have hnil : S'.out = [] := List.eq_nil_of_length_eq_zero (by rw [← HON.out]; exact h0)
                  rw [HBL.out, hnil]; rfl
                subst hl1 hb0
                clear h0 c0 c1 c3
                go_quiet (fail)
                all_goals
                  go_wp2
                  go_meet
                  exact ⟨rfl, ⟨by repeat (first | (with_reducible first | exact Below.refl _ _ | apply below_alloc | apply pw_below_drewN | apply below_drew1) | exact Below.refl _ _)⟩⟩
              · obtain ⟨j, hj⟩ : ∃ j, on = j + 1 := ⟨on - 1, by omega⟩
                have hl1 : lv = (j : Int) := by rw [HLV.out]; omega
                have hC := (Kd.R_reads' HF4.out.2.2.2.2.1).2.2
                obtain ⟨bd, eb, u0, _⟩ := at_R hC j (by have := HON.out; omega)
                have hlast : S'.out.getLast? = some (atR S'.out j) := by
                  have : j = S'.out.length - 1 := by have := HON.out; omega
                  rw [List.getLast?_eq_getElem?, ← this]
                  unfold atR
                  rw [List.getD_eq_getElem?_getD, List.getElem?_eq_getElem (by have := HON.out; omega)]; rfl
                have hb1 : bl = decide (k ≤ (atR S'.out j).1) := by rw [HBL.out]; unfold lastGe; rw [hlast]
                obtain ⟨lk, hlk⟩ : ∃ lk, lk = (atR S'.out j).1 := ⟨_, rfl⟩
                rw [← hlk] at u0 hb1
                have q1 : decide (lk ≥ k) = bl := hb1.symm
                have q2 : ((j : Int) < (on : Int)) = True := eq_true (by omega)
                have q3 : (j < on) = True := eq_true (by omega)
                subst hl1
                subst eb
                clear h0 hj hC hlast hb1 hlk c0 c1 c3
                go_quiet (fail)
                all_goals
                  go_wp2
                  go_meet
                  exact ⟨rfl, ⟨by repeat (first | (with_reducible first | exact Below.refl _ _ | apply below_alloc | apply pw_below_drewN | apply below_drew1) | exact Below.refl _ _)⟩⟩
            case rest =>
              obtain ⟨rfl, HB5⟩ := hcut
              have HX5 := Aside0.mk ((HB5.out.block _ (blk_lt HX4.out)).trans HX4.out)
              have HF5 := Aside0.mk (HF4.out.step HB5.out)
              have HK5 := Aside0.mk (HK4.out.trans (Kf.below HB5.out g))
              have HR5 := Aside0.mk (Kd.R_below HR4.out HB5.out)
              have hQ5 : q < wc.heap.size := blk_lt HX5.out
              have hqw : wr.heap.size ≤ q := by have := HQ.out; omega
              clear HX4 HF4 HK4 HR4 y0 y1 y2 y3 c0 c1 c2 c3 HLV
              have hR1 := HR1.out
              cases bl
              case true =>
                rw [show fCells ld ((k, sz, pg, by_) :: cl.drop (i + 1)) S' = fForm S' from if_pos HBL.out.symm] at hR1
                subst hR1
                clear HR1 HBL
                go_wp2_with (first | (go_at_call 110; (with_reducible refine (form_any HF5.out).mono ?_); rintro e w6 ⟨rfl, hf3, hk3⟩; have HF6 := Aside0.mk hf3; have HK6 := Aside0.mk (HK5.out.trans (hk3.kf HF5.out.2.2.2.1)); clear hf3 hk3))
                exact bodyPost_ret (v := .tuple #[]) (by simp [results, Tryz.results111, go_sem]) rfl ⟨rfl, ⟨_, HF6.out⟩, HK6.out⟩
              case false =>
                rw [show fCells ld ((k, sz, pg, by_) :: cl.drop (i + 1)) S' = fCells ld (cl.drop (i + 1)) { (fCell ld S' (k, sz, pg, by_)).2 with out := S'.out ++ [(k, (fCell ld S' (k, sz, pg, by_)).1)] } from if_neg (by rw [show lastGe S'.out (k, sz, pg, by_).1 = false from HBL.out.symm]; decide)] at hR1
                have HR2 := Aside0.mk hR1
                clear hR1 HR1 HBL
                obtain ⟨y0, y1, y2, y3⟩ : wc.cell? ⟨q, 0, none⟩ = some (.int .i64 k) ∧ wc.cell? ⟨q, 1, none⟩ = some (.int .i64 sz) ∧ wc.cell? ⟨q, 2, none⟩ = some (.int .i64 pg) ∧ wc.cell? ⟨q, 3, none⟩ = some (.string by_) := ⟨(blk_cell HX5.out 0).trans rfl, (blk_cell HX5.out 1).trans rfl, (blk_cell HX5.out 2).trans rfl, (blk_cell HX5.out 3).trans rfl⟩
                go_upto_region 11 with (fail)
                obtain ⟨w6, hw6⟩ : ∃ w6, w6 = wc.alloc (.cells #[.int .i64 k, .string by_] 50) := ⟨_, rfl⟩
                have HBA := Aside0.mk (below_alloc (Below.refl wc.heap.size wc) (.cells #[.int .i64 k, .string by_] 50))
                rw [← hw6] at HBA ⊢
                have HP6 := Aside0.mk (show w6.heap[wc.heap.size]? = some (.cells #[.int .i64 k, .string by_] 50 (0, 0)) from by rw [hw6]; exact (MapKept.heap_alloc wc _).1)
                have HX6 := Aside0.mk ((HBA.out.block _ (blk_lt HX5.out)).trans HX5.out)
                have HF6 := Aside0.mk (HF5.out.step HBA.out)
                have HK6 := Aside0.mk (HK5.out.trans (Kf.below HBA.out g))
                have HR6 := Aside0.mk (Kd.R_below HR5.out HBA.out)
                have hown : (Value.slice B on d).ownBlock ≠ some wc.heap.size := by
                  intro e
                  obtain ⟨cs, hc⟩ := Kd.R_typed HF5.out.2.2.2.2.1 wc.heap.size e
                  have := blk_lt hc
                  omega
                have HGP := Aside0.mk (And.intro hown (And.intro (show w0.heap.size ≤ wc.heap.size from HF5.out.2.2.2.2.2.size) (show wc.heap.size ≠ g ∧ wc.heap.size ≠ q from ⟨by have := blk_lt HF5.out.1; omega, by omega⟩)))
                obtain ⟨p, hp⟩ : ∃ p, p = wc.heap.size := ⟨_, rfl⟩
                rw [← hp] at HP6 HGP ⊢
                clear hw6 y0 y1 y2 y3 HF5 HK5 HR5 hp HBA HX5 hQ5 hown
                obtain ⟨y0, y1, y2, y3⟩ : w6.cell? ⟨q, 0, none⟩ = some (.int .i64 k) ∧ w6.cell? ⟨q, 1, none⟩ = some (.int .i64 sz) ∧ w6.cell? ⟨q, 2, none⟩ = some (.int .i64 pg) ∧ w6.cell? ⟨q, 3, none⟩ = some (.string by_) := ⟨(blk_cell HX6.out 0).trans rfl, (blk_cell HX6.out 1).trans rfl, (blk_cell HX6.out 2).trans rfl, (blk_cell HX6.out 3).trans rfl⟩
                obtain ⟨bts, hbts⟩ : ∃ b, b = (fCell ld S' (k, sz, pg, by_)).1 := ⟨_, rfl⟩
                obtain ⟨S7, hS7⟩ : ∃ b, b = (fCell ld S' (k, sz, pg, by_)).2 := ⟨_, rfl⟩
                have hO7 := fCell_ok HSM.out HO.out (k, sz, pg, by_)
                have ho7 := fCell_out ld S' (k, sz, pg, by_)
                rw [← hbts, ← hS7] at HR2
                rw [← hS7] at hO7 ho7
                have HO7 := Aside0.mk (And.intro hO7 ho7)
                have HBT := Aside0.mk (And.intro hbts hS7)
                clear hO7 ho7 hbts hS7
                obtain ⟨tb, htb⟩ : ∃ tb, tb = decide (24 < sz) := ⟨_, rfl⟩
                have q1 : decide (sz > 24) = tb := htb.symm
                have HTB := Aside0.mk htb
                clear htb
                go_upto_if 72 with (fail)
                clear q1
                go_cut [9] (fun v9 wx => v9 = .pointer (some ⟨p, 0, none⟩) ∧ Aside0 (IsFind w0 wx g m L (.slice B on d) S7) ∧ Aside0 (Kf w wx g) ∧ Aside0 (kC.R 151 wx w0.heap.size (fun _ => True) (.slice (some ad) n c) cl) ∧ Aside0 (wx.heap[p]? = some (.cells #[.int .i64 k, .string bts] 50 (0, 0))))
                case first =>
                  cases tb
                  case true =>
                    have h24 : 24 < sz := of_decide_eq_true HTB.out.symm
                    have HCH := Aside0.mk (fchain_any HLD.out HSM.out HF6.out HO.out pg sz HG.out.2.2 HG.out.2.1 HG.out.1)
                    have e7 : fCell ld S' (k, sz, pg, by_) = fChain 1000 ld S' pg sz ⟨#[]⟩ := if_pos h24
                    rw [e7] at HBT
                    rw [← HBT.out.1, ← HBT.out.2] at HCH
                    clear h24 e7
                    go_wp2_with (fail)
                    with_reducible refine (HCH.out).mono ?_
                    rintro e w7 ⟨rfl, hf7, hk7⟩
                    have HF7 := Aside0.mk hf7
                    have hk9 := hk7.kf HF6.out.2.2.2.1
                    have HK7 := Aside0.mk (HK6.out.trans hk9)
                    have HR7 := Aside0.mk (hk9.R HF6.out.1 HR6.out T61)
                    have hp7 := (hk7.2 p (blk_lt HP6.out) HGP.out.2.2.1 (fun e => pg_ne HF6.out.2.2.2.1 HP6.out e.symm)).trans HP6.out
                    have HP7 := Aside0.mk hp7
                    have pf1 := blk_frozen hp7 1
                    have pc1 : w7.cell? ⟨p, 1, none⟩ = some (.string by_) := (blk_cell hp7 1).trans rfl
                    clear hf7 hk7 hk9 hp7
                    go_wp2_with (fail)
                    go_meet
                    exact ⟨rfl, ⟨HF7.out.setR HP7.out HGP.out.1 HGP.out.2.1 1 _⟩, ⟨HK7.out.trans (Kf.setR HP7.out)⟩, ⟨Kd.R_set HR7.out HP7.out (by intro q hq; simp [kC, Kd.pair, Kd.int, Kd.string, Kd.scalar] at hq; omega) 1 _⟩, ⟨by simpa using blk_set HP7.out 1 (.string bts)⟩⟩
                  case false =>
                    have h24 : ¬ 24 < sz := of_decide_eq_false HTB.out.symm
                    have e7 : fCell ld S' (k, sz, pg, by_) = (by_, S') := if_neg h24
                    rw [e7] at HBT
                    obtain ⟨e8, e9⟩ := HBT.out
                    change bts = by_ at e8
                    change S7 = S' at e9
                    subst e8 e9
                    clear h24 e7 HBT
                    go_wp2_with (fail)
                    go_meet
                    exact ⟨rfl, HF6, HK6, HR6, HP6⟩
                case rest =>
                  obtain ⟨rfl, HF8, HK8, HR8, HP8⟩ := hcut
                  clear HF6 HK6 HR6 HP6 HX6 y0 y1 y2 y3 HTB HBT
                  obtain ⟨c0, c1, c2, c3⟩ := cell104 HF8.out.1
                  have f2 := blk_frozen HF8.out.1 2
                  have p0 : wc.cell? ⟨p, 0, none⟩ = some (.int .i64 k) := (blk_cell HP8.out 0).trans rfl
                  have p1 : wc.cell? ⟨p, 1, none⟩ = some (.string bts) := (blk_cell HP8.out 1).trans rfl
                  go_upto_region 13 with (fail)
                  obtain ⟨o7, ho7⟩ : ∃ o, o = S7.out := ⟨_, rfl⟩
                  have HO8 := Aside0.mk ho7
                  have hlen8 : o7.length = on := by rw [ho7, HO7.out.2]; exact HON.out.symm
                  have HL8 := Aside0.mk hlen8
                  have HRW := Aside0.mk (show kR.R 50 wc w0.heap.size (fun _ => True) (.slice B on d) o7 from by rw [ho7]; exact HF8.out.2.2.2.2.1)
                  have HBB := Aside0.mk HF8.out.2.2.2.2.2
                  clear ho7 hlen8
                  have HCB := Aside0.mk (MapKept.heap_alloc wc (.cells #[.int .i64 k, .string bts] 50)).1
                  have HBL := Aside0.mk (below_drew1 (below_alloc (Below.refl wc.heap.size wc) (.cells #[.int .i64 k, .string bts] 50)))
                  have HCA := Aside0.mk (show kR.C (wc.alloc (.cells #[.int .i64 k, .string bts] 50)).drew (some ⟨wc.heap.size, 0, none⟩) 1 [(k, bts)] from by
                    exact Kd.C_drew (C_block (d := kR) (xs := [(k, bts)]) HCB.out ((Reps.none _ _).snoc (kR_mk _ (k, bts)) rfl) (by show 1 ≤ 9223372036854775807; omega)))
                  have HRA := Aside0.mk (show kR.R 50 (wc.alloc (.cells #[.int .i64 k, .string bts] 50)).drew w0.heap.size (fun _ => True) (.slice B on d) o7 from by exact Kd.R_drew (Kd.R_alloc HRW.out _))
                  have HBA := Aside0.mk (show Below w0.heap.size w0 (wc.alloc (.cells #[.int .i64 k, .string bts] 50)).drew from by exact below_drew1 (below_alloc HBB.out _))
                  have HGA := Aside0.mk (show ((wc.alloc (.cells #[.int .i64 k, .string bts] 50)).drew).heap[g]? = some (.cells #[L, .map (some m), .slice B on d, .int .i64 S7.e] 176 (0, 0)) from by exact (HBL.out.block _ (blk_lt HF8.out.1)).trans HF8.out.1)
                  have HMA := Aside0.mk (show IsPg (wc.alloc (.cells #[.int .i64 k, .string bts] 50)).drew m S7.pages from by exact HF8.out.2.2.2.1.at (HBL.out.block _ HF8.out.2.2.2.1.lt))
                  have HKA := Aside0.mk (show Kf w (wc.alloc (.cells #[.int .i64 k, .string bts] 50)).drew g from by exact HK8.out.trans (Kf.below HBL.out g))
                  have HRC := Aside0.mk (show kC.R 151 (wc.alloc (.cells #[.int .i64 k, .string bts] 50)).drew w0.heap.size (fun _ => True) (.slice (some ad) n c) cl from by exact Kd.R_below HR8.out HBL.out)
                  have ca2 := (cell104 (((below_alloc (Below.refl wc.heap.size wc) (.cells #[.int .i64 k, .string bts] 50)).block _ (blk_lt HF8.out.1)).trans HF8.out.1)).2.2.1
                  go_region_law (refine Kd.R_append_rows_step kR (Rr := kR.K (wc.alloc (.cells #[.int .i64 k, .string bts] 50)).drew) w0.heap.size rfl (.tmp 84) (.tmp 86) 31 50 (.agg #[(.int .i64 0), (.string ⟨#[]⟩)]) 24 rfl Tryz.underlying31 info50 rfl (by decide) (by omega) (.slice B on d) o7 [(k, bts)] (some ⟨wc.heap.size, 0, none⟩) 1 1 (fun _ => True) (fun _ => False) rfl rfl HRA.out HCA.out (fun x cs hx => by rw [kR_open hx]; exact kR_mkM _ _ _ _) (fun _ hk => hk.elim) (fun _ _ => trivial) HBA.out HBA.out.size (by have := HL8.out; omega) ?_; intro v3 w3 ho_ hb_ hg_ hat_; obtain ⟨A3, d3, e3⟩ := Kd.R_slice ho_; obtain ⟨l3, hl3⟩ : ∃ l3 : Nat, l3 = (o7 ++ [(k, bts)]).length := ⟨_, rfl⟩; rw [← hl3] at e3; clear hl3; subst e3; have E3 := Aside0.mk ho_; have E4 := Aside0.mk hb_; have E5 := Aside0.mk hg_; have K3 := Aside0.mk ((hg_.block g (blk_lt HGA.out) (Kd.R_ne HRA.out HGA.out (by decide))).trans HGA.out); have z2 := (cell104 K3.out).2.2.1; have zf2 := blk_frozen K3.out 2; clear ho_ hb_ hg_ hat_)
                  all_goals
                    go_wp2
                    go_roundg gk
                    case measure => omega
                    case rel =>
                      have hS : IsFind w0 (w3.setCell ⟨g, 2, none⟩ (.slice A3 l3 d3)) g m L (.slice A3 l3 d3) { S7 with out := o7 ++ [(k, bts)] } :=
                        ⟨by simpa using blk_set K3.out 2 (.slice A3 l3 d3), HF8.out.2.1, HF8.out.2.2.1, (HMA.out.at (E5.out.block m HMA.out.lt (pg_ne_row HRA.out HMA.out))).at (Below.heap_setCell _ _ _ m (pg_ne (HMA.out.at (E5.out.block m HMA.out.lt (pg_ne_row HRA.out HMA.out))) K3.out)), Kd.R_set E3.out K3.out (by intro q hq; simp [kR, Kd.pair, Kd.int, Kd.string, Kd.scalar] at hq; omega) 2 _, below_set E4.out HF8.out.2.1⟩
                      refine ⟨i + 1, _, _, by first | rfl | go_num, ⟨by have := HI.out; omega⟩, ?_, ?_, ?_, ?_, ⟨hS⟩, ⟨HKA.out.trans ((Kf.row HRA.out E5.out).trans Kf.set)⟩⟩
                      · exact ⟨fun a b h => HO7.out.1 a b h⟩
                      · exact ⟨by show (o7 ++ [(k, bts)]).length + n ≤ _; rw [List.length_append, HL8.out]; have := HL.out; have := HON.out; simp; omega⟩
                      · have := HR2.out
                        rw [HO8.out, HO7.out.2]
                        exact ⟨this⟩
                      · exact ⟨Kd.R_set (Kd.R_over HRC.out HRA.out (fun q hq => (T61 q hq).1) E5.out) K3.out (fun q hq => (T61 q hq).2) 2 _⟩
end Go.Proofs.YtdhaoaehboonpaaGreat.V
end
