/- Of the texts that the row stands on, what it needs (part 25), put together by a program of this session. -/
import Derived.Test.YtpeeojbhfebcdaaYT24
import Derived.BigQuiet
import Derived.Deep.RegionLaw
import Derived.Deep.QuietTactic
section
namespace Go.Proofs.Ytpeeojbhfebcdaa.V
open Go.RowKit Go.Proofs.YtpeeojbhfebcdaaW.PrintWords Go.Proofs.YtpeeojbhfebcdaaW.PrintLast Go.Proofs.YtpeeojbhfebcdaaW.PrintMore Go.Proofs.YtpeeojbhfebcdaaM
set_option linter.unusedVariables false
set_option linter.unusedSimpArgs false
def linkE (b : ByteArray) : Int × ByteArray × Bool := (PRd.sheet_Link.f 12 b).getD (0, ⟨#[]⟩, false)
theorem linkE_is (b : ByteArray) (h : b.size ≤ 1000000) : PRd.sheet_Link.f 12 b = some (linkE b) ∧ ∃ bad nx pc, linkE b = PRd.linkFin b bad nx pc := by
  obtain ⟨bad, nx, pc, hk⟩ := PRd.link_ex b h
  have h1 := hk 12 (Nat.le_refl _)
  unfold linkE
  rw [h1]
  exact ⟨rfl, bad, nx, pc, rfl⟩
theorem linkE_range (b : ByteArray) (h : b.size ≤ 1000000) : 0 ≤ (linkE b).1 ∧ (linkE b).1 < 200 ∧ (linkE b).2.1.size ≤ 120 := by
  obtain ⟨_, bad, nx, pc, e⟩ := linkE_is b h
  rw [e]
  unfold PRd.linkFin
  split
  · rename_i hc
    simp only [Bool.and_eq_true] at hc
    have h1 := hc.2.1
    unfold chOk at h1
    simp only [Bool.and_eq_true, Bool.or_eq_true, decide_eq_true_eq] at h1
    obtain ⟨h1, h2, h3⟩ := h1
    refine ⟨?_, ?_, h3⟩
    · show 0 ≤ nx
      rcases h1 with h1 | h1
      · omega
      · have := PRd.okP_range h1; omega
    · show nx < 200
      rcases h1 with h1 | h1
      · omega
      · have := PRd.okP_range h1; omega
  · exact ⟨Int.le_refl _, by decide, by decide⟩
theorem link_any (b : ByteArray) (h : b.size ≤ 1000000) (w : World) : Calls Try.prog 86 #[.string b] w fun e w' => e = .returned (.tuple #[.int .i64 (linkE b).1, .string (linkE b).2.1, .bool (linkE b).2.2]) ∧ Below w.heap.size w w' :=
  PRd.sheet_Link.calls 12 b _ _ _ w (linkE_is b h).1
theorem wfI_small {n : Int} (h0 : -9223372036854775808 ≤ n) (h1 : n ≤ 9223372036854775807) : wfI n := by
  unfold wfI
  simp only [Lit.wf, decide_eq_true_eq, Bool.and_eq_true]
  first | exact ⟨h0, h1⟩ | (simp [IntKind.i64]; omega)
def LdSmall (ld : Ld) : Prop := ∀ n, (ld n).1.size ≤ 1000000
def FOk (S : FS) : Prop := ∀ n b, S.pages n = some b → b.size ≤ 1000000
theorem fForm_ok {S : FS} (h : FOk S) : FOk (fForm S) := by unfold fForm; split <;> exact h
theorem fPage_ok {ld : Ld} (hl : LdSmall ld) {S : FS} (h : FOk S) (n : Int) : FOk (fPage ld S n).2 ∧ (fPage ld S n).1.size ≤ 1000000 := by
  unfold fPage
  cases hp : S.pages n with
  | some b => exact ⟨h, h n b hp⟩
  | none =>
    show FOk (if S.e = 0 then _ else _ : ByteArray × FS).2 ∧ (if S.e = 0 then _ else _ : ByteArray × FS).1.size ≤ 1000000
    split
    · split
      · refine ⟨fun k b hk => ?_, hl n⟩
        by_cases e : k = n
        · change upd S.pages n (ld n).1 k = some b at hk
          rw [e, upd_same] at hk
          injection hk with hk
          rw [← hk]; exact hl n
        · change upd S.pages n (ld n).1 k = some b at hk
          rw [upd_ne _ _ e] at hk
          exact h k b hk
      · exact ⟨h, hl n⟩
    · exact ⟨h, by show (0 : Nat) ≤ 1000000; decide⟩
def badL (size : Int) (t : Int × ByteArray × Bool) : Bool := !t.2.2 || (((t.2.1.size : Int) != min size 120) || ((t.1 == 0) != (size - min size 120 == 0)))
def fStep (ld : Ld) (S : FS) (n size : Int) : FS := if badL size (linkE (fPage ld S n).1) = true then fForm (fPage ld S n).2 else (fPage ld S n).2
def fChain : Nat → Ld → FS → Int → Int → ByteArray → ByteArray × FS
  | 0, _, S, _, _, o => (o, S)
  | k + 1, ld, S, n, size, o => if S.e = 0 ∧ 0 < size then fChain k ld (fStep ld S n size) (linkE (fPage ld S n).1).1 (size - min size 120) (o ++ (linkE (fPage ld S n).1).2.1) else (o, S)
theorem fStep_ok {ld : Ld} (hl : LdSmall ld) {S : FS} (h : FOk S) (n size : Int) : FOk (fStep ld S n size) := by
  unfold fStep
  split
  · exact fForm_ok (fPage_ok hl h n).1
  · exact (fPage_ok hl h n).1
set_option maxHeartbeats 8000000 in
set_option maxRecDepth 100000 in
theorem fchain_any {w0 w : World} {g m : Nat} {L v : Value} {ld : Ld} {S : FS} (HL : LdOk w0 L ld) (hs : LdSmall ld) (h : IsFind w0 w g m L v S) (hf : FOk S) (n size : Int) (hn : wfI n) (hz : size ≤ 900) (hz0 : -1 ≤ size) :
    Calls Try.prog 74 #[.pointer (some ⟨g, 0, none⟩), .int .i64 n, .int .i64 size] w fun e w' => e = .returned (.string (fChain 1000 ld S n size ⟨#[]⟩).1) ∧ IsFind w0 w' g m L v (fChain 1000 ld S n size ⟨#[]⟩).2 ∧ Kq w w' g m := by
  obtain ⟨R, hR⟩ : ∃ R, R = fChain 1000 ld S n size ⟨#[]⟩ := ⟨_, rfl⟩
  rw [← hR]
  have HR := Aside0.mk hR.symm
  have HF := Aside0.mk h
  have HO := Aside0.mk hf
  have HN := Aside0.mk hn
  have HLD := Aside0.mk HL
  have HSM := Aside0.mk hs
  have HZ := Aside0.mk (And.intro hz hz0)
  clear h hf hn HL hs hz hz0 hR
  go_enter Try.func74, Try.ntmps74
  go_upto_region 2 with (fail)
  go_loopg [1, 2, 7] 1000 (fun kq v1 v2 v7 w' => ∃ (n' s' : Int) (o : ByteArray) (S' : FS), v1 = .int .i64 n' ∧ v2 = .int .i64 s' ∧ v7 = .string o ∧ Aside0 (wfI n') ∧ Aside0 (s' ≤ 900 ∧ -1 ≤ s') ∧ Aside0 (s' < kq) ∧ Aside0 (o.size + 120 * kq ≤ 120000) ∧ Aside0 (FOk S') ∧ Aside0 (fChain kq ld S' n' s' o = R) ∧ Aside0 (IsFind w0 w' g m L v S') ∧ Aside0 (Kq w w' g m))
  case atStart => exact ⟨_, _, _, _, rfl, rfl, rfl, HN, HZ, ⟨by have := HZ.out; omega⟩, ⟨by decide⟩, HO, HR, HF, ⟨Kq.refl _ _ _⟩⟩
  case round =>
    clear HR HF HO HN HZ
    obtain ⟨n', s', o, S', rfl, rfl, rfl, HN, HZ, HK, HS, HO, HR, HF, HKF⟩ := hrel
    have hF := HF.out
    obtain ⟨h1, h2, h3, h4, h5, h6⟩ := hF
    obtain ⟨c0, c1, c2, c3⟩ := cell104 h1
    clear h1 h2 h3 h4 h5 h6 c0 c1 c2
    by_cases he : S'.e = 0
    · have d1 : (S'.e == 0) = true := by simpa using he
      by_cases hs : 0 < s'
      · have d2 : decide (s' > 0) = true := decide_eq_true hs
        cases gk with
        | zero => have := HK.out; omega
        | succ gk =>
          have hR := HR.out
          rw [show fChain (gk + 1) ld S' n' s' o = fChain gk ld (fStep ld S' n' s') (linkE (fPage ld S' n').1).1 (s' - min s' 120) (o ++ (linkE (fPage ld S' n').1).2.1) from if_pos ⟨he, hs⟩] at hR
          have hb := (fPage_ok HSM.out HO.out n').2
          have hO2 := fStep_ok HSM.out HO.out n' s'
          have HP := Aside0.mk (page_any HLD.out HF.out n' HN.out)
          have hrg := linkE_range (fPage ld S' n').1 hb
          have hst : fStep ld S' n' s' = if badL s' (linkE (fPage ld S' n').1) = true then fForm (fPage ld S' n').2 else (fPage ld S' n').2 := rfl
          obtain ⟨b, hb1⟩ : ∃ b, b = (fPage ld S' n').1 := ⟨_, rfl⟩
          obtain ⟨S1, hS1⟩ : ∃ S1, S1 = (fPage ld S' n').2 := ⟨_, rfl⟩
          rw [← hb1] at hR HP hrg hb hst
          rw [← hS1] at HP hst
          have HLK := Aside0.mk (fun W => link_any b hb W)
          obtain ⟨t1, t2, t3, ht⟩ : ∃ t1 t2 t3, linkE b = (t1, t2, t3) := ⟨_, _, _, rfl⟩
          rw [ht] at HLK hR hrg hst
          obtain ⟨S2, hS2⟩ : ∃ S2, S2 = fStep ld S' n' s' := ⟨_, rfl⟩
          rw [← hS2] at hR hst hO2
          obtain ⟨bd, hbd⟩ : ∃ bd, bd = badL s' (t1, t2, t3) := ⟨_, rfl⟩
          rw [← hbd] at hst
          have HR2 := Aside0.mk hR
          have HST := Aside0.mk hst
          have HO2 := Aside0.mk hO2
          have HBD := Aside0.mk hbd
          have HRG := Aside0.mk hrg
          have HE := Aside0.mk he
          simp only [] at HR2 HLK HRG
          have q0 : (o.size + t2.size ≤ 9223372036854775807) = True := eq_true (by have := HS.out; have := HRG.out.2.2; omega)
          have q1 : (9223372036854775807 < o.size + t2.size) = False := eq_false (by have := HS.out; have := HRG.out.2.2; omega)
          have hs9 := HZ.out.1
          clear hR hst hO2 hbd hrg he hb1 hS1 ht hS2 hb HR
          go_upto_region 6 with (first
            | (go_at_call 44; (with_reducible refine (HP.out).mono ?_); rintro e w1 ⟨rfl, hf1, hk1⟩; have HF1 := Aside0.mk hf1; have HK1 := Aside0.mk (HKF.out.trans hk1); clear hf1 hk1)
            | (go_at_call 86; (with_reducible refine (HLK.out _).mono ?_); rintro e w2 ⟨rfl, hb2⟩; have HF2 := Aside0.mk (HF1.out.step hb2); have HK2 := Aside0.mk (HK1.out.trans (Kq.below hb2 g m)); clear hb2))
          have sub0 : (0 : Int) ≤ s' - min s' 120 := by omega
          have sub1 : s' - min s' 120 < s' := by omega
          have SUB := Aside0.mk (And.intro sub0 sub1)
          clear sub0 sub1
          go_cut [48] (fun v48 wc => v48 = .bool bd ∧ wc = w2)
          case first =>
            have hb := HBD.out
            change bd = (!t3 || (((t2.size : Int) != min s' 120) || ((t1 == 0) != (s' - min s' 120 == 0)))) at hb
            obtain ⟨b2, hb2⟩ : ∃ c, ((t2.size : Int) != min s' 120) = c := ⟨_, rfl⟩
            obtain ⟨b3, hb3⟩ : ∃ c, (t1 == 0) = c := ⟨_, rfl⟩
            obtain ⟨b4, hb4⟩ : ∃ c, (s' - min s' 120 == 0) = c := ⟨_, rfl⟩
            rw [hb2, hb3, hb4] at hb
            clear HBD
            cases t3
            case false =>
              subst hb
              go_wp2_with (fail)
              go_meet
              exact ⟨rfl, rfl⟩
            case true =>
              cases b2
              case true =>
                subst hb
                go_wp2_with (fail)
                go_meet
                exact ⟨rfl, rfl⟩
              case false =>
                cases b3
                all_goals
                  cases b4
                  all_goals
                    subst hb
                    go_wp2_with (fail)
                    go_meet
                    exact ⟨rfl, rfl⟩
          case rest =>
            obtain ⟨rfl, rfl⟩ := hcut
            clear HBD
            have hst := HST.out
            cases bd
            case true =>
              rw [if_pos rfl] at hst
              subst hst
              clear HST
              go_wp2_with (first | (go_at_call 45; (with_reducible refine (form_any HF2.out).mono ?_); rintro e w3 ⟨rfl, hf3, hk3⟩; have HF3 := Aside0.mk hf3; have HK3 := Aside0.mk (HK2.out.trans hk3); clear hf3 hk3))
              go_roundg gk
              case measure => omega
              case rel => exact ⟨t1, s' - min s' 120, o ++ t2, _, rfl, rfl, rfl, ⟨wfI_small (by have := HRG.out.1; omega) (by have := HRG.out.2.1; omega)⟩, ⟨by have := SUB.out; have := HZ.out; omega⟩, ⟨by have := SUB.out; have := HK.out; omega⟩, ⟨by rw [ByteArray.size_append]; have := HS.out; have := HRG.out.2.2; omega⟩, HO2, HR2, HF3, HK3⟩
            case false =>
              rw [if_neg (by decide)] at hst
              subst hst
              clear HST
              go_wp2_with (fail)
              go_roundg gk
              case measure => omega
              case rel => exact ⟨t1, s' - min s' 120, o ++ t2, _, rfl, rfl, rfl, ⟨wfI_small (by have := HRG.out.1; omega) (by have := HRG.out.2.1; omega)⟩, ⟨by have := SUB.out; have := HZ.out; omega⟩, ⟨by have := SUB.out; have := HK.out; omega⟩, ⟨by rw [ByteArray.size_append]; have := HS.out; have := HRG.out.2.2; omega⟩, HO2, HR2, HF2, HK2⟩
      · have d2 : decide (s' > 0) = false := decide_eq_false hs
        have hR := HR.out
        have hR2 : (o, S') = R := by
          cases gk with
          | zero => exact hR
          | succ gk => rw [show fChain (gk + 1) ld S' n' s' o = (o, S') from if_neg (fun h => hs h.2)] at hR; exact hR
        subst hR2
        clear hR hs he HR
        go_wp2_with (fail)
        go_ret
        exact ⟨rfl, HF.out, HKF.out⟩
    · have d1 : (S'.e == 0) = false := by simpa using he
      have hR := HR.out
      have hR2 : (o, S') = R := by
        cases gk with
        | zero => exact hR
        | succ gk => rw [show fChain (gk + 1) ld S' n' s' o = (o, S') from if_neg (fun h => he h.1)] at hR; exact hR
      subst hR2
      clear hR he HR
      go_wp2_with (fail)
      go_ret
      exact ⟨rfl, HF.out, HKF.out⟩
end Go.Proofs.Ytpeeojbhfebcdaa.V
end
section
namespace Go.Proofs.Ytpeeojbhfebcdaa.V
open Go.RowKit Go.Proofs.YtpeeojbhfebcdaaW.PrintWords Go.Proofs.YtpeeojbhfebcdaaW.PrintLast Go.Proofs.YtpeeojbhfebcdaaW.PrintMore Go.Proofs.YtpeeojbhfebcdaaM
set_option linter.unusedVariables false
set_option linter.unusedSimpArgs false
def cellsP (b : ByteArray) : List PRd.S61 × Bool := (PRd.sheet_Cells.f 600 b).getD ([], false)
def tC (l : List PRd.S61) : List C4 := l.map fun x => (x.f0, x.f1, x.f2, x.f3)
def cellsE (b : ByteArray) : List C4 × Bool := (tC (cellsP b).1, (cellsP b).2)
theorem cellsP_is (b : ByteArray) : PRd.sheet_Cells.f 600 b = some (cellsP b) ∧ ∃ bad l, cellsP b = PRd.cellsFin b bad l := by
  obtain ⟨bad, l, hk⟩ := PRd.cells_ex b
  have h1 := hk 600 (Nat.le_refl _)
  unfold cellsP
  rw [h1]
  exact ⟨rfl, bad, l, rfl⟩
def goodR (x : C4) : Prop := -1 ≤ x.2.1 ∧ x.2.1 ≤ 900 ∧ wfI x.2.2.1
theorem cellsE_ok (b : ByteArray) : (cellsE b).1.length ≤ 128 ∧ (∀ x ∈ (cellsE b).1, goodR x) ∧ ((cellsE b).2 = false → (cellsE b).1 = []) := by
  obtain ⟨_, bad, l, e⟩ := cellsP_is b
  unfold cellsE
  rw [e]
  unfold PRd.cellsFin
  split
  · rename_i hc
    simp only [Bool.and_eq_true] at hc
    have h1 := hc.2.1
    unfold PRd.leafOk at h1
    simp only [Bool.and_eq_true, decide_eq_true_eq] at h1
    obtain ⟨h1, h2, _⟩ := h1
    refine ⟨by unfold tC; rw [List.length_map]; exact h1, fun x hx => ?_, fun h => by cases h⟩
    unfold tC at hx
    obtain ⟨y, hy, rfl⟩ := List.mem_map.1 hx
    obtain ⟨j, hj, rfl⟩ := PRd.mem_rd52 hy
    unfold PRd.leafV lfV at h2
    rw [all_at] at h2
    have h3 := h2 j hj
    simp only [Bool.and_eq_true] at h3
    have h4 := h3.2
    unfold okR at h4
    unfold goodR
    split at h4
    · rename_i h24
      simp only [Bool.and_eq_true, decide_eq_true_eq, beq_iff_eq] at h4
      exact ⟨by show -1 ≤ (PRd.rd_T61 l j).f1; have := h4.1; omega, by show (PRd.rd_T61 l j).f1 ≤ 900; omega, by show wfI (PRd.rd_T61 l j).f2; rw [h4.2]; exact wfI_small (by decide) (by decide)⟩
    · rename_i h24
      simp only [Bool.and_eq_true, decide_eq_true_eq] at h4
      have h5 := PRd.okP_range h4.2.2
      exact ⟨by show -1 ≤ (PRd.rd_T61 l j).f1; omega, h4.1, (show wfI (PRd.rd_T61 l j).f2 from wfI_small (by omega) (by omega))⟩
  · exact ⟨by show 0 ≤ 128; decide, fun x hx => (List.not_mem_nil hx).elim, fun _ => rfl⟩
theorem cells_any (b : ByteArray) (w : World) : Calls Try.prog 73 #[.string b] w fun e w' => ∃ v0 : Value, e = .returned (.tuple #[v0, .bool (cellsE b).2]) ∧ kC.R 61 w' w.heap.size (fun _ => True) v0 (cellsE b).1 ∧ Below w.heap.size w w' := by
  refine (PRd.sheet_Cells.calls 600 b _ _ w (cellsP_is b).1).mono ?_
  rintro e w' ⟨v, rfl, hR, hb⟩
  exact ⟨v, rfl, R_iso (f := fun x : PRd.S61 => (x.f0, x.f1, x.f2, x.f3)) hR, hb⟩
def lastGe (o : List R2) (k : Int) : Bool := match o.getLast? with | some r => decide (k ≤ r.1) | none => false
def fCell (ld : Ld) (S : FS) (c : C4) : ByteArray × FS := if 24 < c.2.1 then fChain 1000 ld S c.2.2.1 c.2.1 ⟨#[]⟩ else (c.2.2.2, S)
def fCells (ld : Ld) : List C4 → FS → FS
  | [], S => S
  | c :: r, S => if lastGe S.out c.1 = true then fForm S else fCells ld r { (fCell ld S c).2 with out := S.out ++ [(c.1, (fCell ld S c).1)] }
def okHd (l : List C4) (k : Int) : Bool := match l with | [] => false | c :: _ => decide (c.1 = k)
def fLeaf (ld : Ld) (S : FS) (s : S2) : FS :=
  if ((cellsE (fPage ld S s.2).1).2 && okHd (cellsE (fPage ld S s.2).1).1 s.1) = true then fCells ld (cellsE (fPage ld S s.2).1).1 (fPage ld S s.2).2 else fForm (fPage ld S s.2).2
theorem fForm_out (S : FS) : (fForm S).out = S.out := by unfold fForm; split <;> rfl
theorem fPage_out (ld : Ld) (S : FS) (n : Int) : (fPage ld S n).2.out = S.out := by
  unfold fPage
  split
  · rfl
  · split
    · split <;> rfl
    · rfl
theorem fStep_out (ld : Ld) (S : FS) (n s : Int) : (fStep ld S n s).out = S.out := by
  unfold fStep
  split
  · rw [fForm_out, fPage_out]
  · rw [fPage_out]
theorem fChain_out (ld : Ld) : ∀ (k : Nat) (S : FS) (n s : Int) (o : ByteArray), (fChain k ld S n s o).2.out = S.out
  | 0, _, _, _, _ => rfl
  | k + 1, S, n, s, o => by
    unfold fChain
    split
    · rw [fChain_out ld k, fStep_out]
    · rfl
theorem fCell_out (ld : Ld) (S : FS) (c : C4) : (fCell ld S c).2.out = S.out := by
  unfold fCell
  split
  · exact fChain_out ld _ _ _ _ _
  · rfl
theorem fChain_ok {ld : Ld} (hl : LdSmall ld) : ∀ (k : Nat) {S : FS} (n s : Int) (o : ByteArray), FOk S → FOk (fChain k ld S n s o).2
  | 0, _, _, _, _, h => h
  | k + 1, S, n, s, o, h => by
    unfold fChain
    split
    · exact fChain_ok hl k _ _ _ (fStep_ok hl h n s)
    · exact h
theorem fCell_ok {ld : Ld} (hl : LdSmall ld) {S : FS} (h : FOk S) (c : C4) : FOk (fCell ld S c).2 := by
  unfold fCell
  split
  · exact fChain_ok hl _ _ _ _ h
  · exact h
theorem fCells_ok {ld : Ld} (hl : LdSmall ld) : ∀ (l : List C4) {S : FS}, FOk S → FOk (fCells ld l S)
  | [], _, h => h
  | c :: r, S, h => by
    unfold fCells
    split
    · exact fForm_ok h
    · exact fCells_ok hl r (S := { (fCell ld S c).2 with out := S.out ++ [(c.1, (fCell ld S c).1)] }) (fun n b hb => fCell_ok hl h c n b hb)
theorem fLeaf_ok {ld : Ld} (hl : LdSmall ld) {S : FS} (h : FOk S) (s : S2) : FOk (fLeaf ld S s) := by
  unfold fLeaf
  split
  · exact fCells_ok hl _ (fPage_ok hl h _).1
  · exact fForm_ok (fPage_ok hl h _).1
theorem fCells_len (ld : Ld) : ∀ (l : List C4) (S : FS), (fCells ld l S).out.length ≤ S.out.length + l.length
  | [], S => Nat.le_refl _
  | c :: r, S => by
    unfold fCells
    split
    · rw [fForm_out]; omega
    · refine Nat.le_trans (fCells_len ld r _) ?_
      show (S.out ++ [_]).length + r.length ≤ _
      simp; omega
theorem fLeaf_len (ld : Ld) (S : FS) (s : S2) : (fLeaf ld S s).out.length ≤ S.out.length + 128 := by
  unfold fLeaf
  split
  · have h1 := fCells_len ld (cellsE (fPage ld S s.2).1).1 (fPage ld S s.2).2
    rw [fPage_out] at h1
    have h2 := (cellsE_ok (fPage ld S s.2).1).1
    omega
  · rw [fForm_out, fPage_out]; omega
theorem C_block {α : Type} {d : Kd α} {w : World} {g e : Nat} {cs : Array Value} {xs : List α} (h : w.heap[g]? = some (.cells cs e (0, 0))) (hr : Reps (d.K w) d.sz xs cs.toList) (hl : xs.length ≤ 9223372036854775807) : d.C w (some ⟨g, 0, none⟩) xs.length xs := by
  refine ⟨rfl, hl, fun _ => ⟨_, rfl, fun j p hj => ?_⟩⟩
  have h1 := hr.2 j p hj
  refine ⟨_, d.K_len h1, h1, fun i u hu => ?_⟩
  have hi : i < d.sz := by
    rcases Nat.lt_or_ge i d.sz with h | h
    · exact h
    · rw [List.getElem?_eq_none (by rw [d.K_len h1]; exact h)] at hu; cases hu
  rw [List.getElem?_take_of_lt hi, List.getElem?_drop, Array.getElem?_toList] at hu
  rw [add_plain, blk_cell h]
  exact hu
theorem kR_own {e : Nat} {w : World} {base : Nat} {ok : Nat → Prop} {v : Value} {xs : List R2} (h : kR.R e w base ok v xs) : kR.R e w base (fun k => v.ownBlock = some k) v xs :=
  ⟨fun k hk => hk, h.2.imp_ (fun x cs hp => by rw [kR_openM hp]; exact kR_mkM _ _ _ _)⟩
theorem IsFind.setR {w0 w : World} {g m r : Nat} {L v : Value} {S : FS} {cs : Array Value} (h : IsFind w0 w g m L v S) (hr : w.heap[r]? = some (.cells cs 45 (0, 0))) (hv : v.ownBlock ≠ some r) (hb : w0.heap.size ≤ r) (j : Nat) (u : Value) : IsFind w0 (w.setCell ⟨r, j, none⟩ u) g m L v S := by
  obtain ⟨h1, h2, h3, h4, h5, h6⟩ := h
  have hgr : g ≠ r := by
    rintro rfl
    rw [h1] at hr
    injection hr with hr
    injection hr with _ hr
    exact absurd hr (by decide)
  refine ⟨(Below.heap_setCell _ ⟨r, j, none⟩ _ g hgr).trans h1, h2, h3, h4.at (Below.heap_setCell _ ⟨r, j, none⟩ _ m (pg_ne h4 hr)), Kd.R_mono (Kd.R_far (p := ⟨r, j, none⟩) (kR_own h5) (fun k hk e => hv (by rw [hk, e])) u) (fun _ _ => trivial), below_set h6 hb⟩
theorem Kf.setR {w : World} {g r j : Nat} {u : Value} {cs : Array Value} (hr : w.heap[r]? = some (.cells cs 45 (0, 0))) : Kf w (w.setCell ⟨r, j, none⟩ u) g :=
  ⟨by simp [World.setCell], fun k c t ht _ hb => (Below.heap_setCell w ⟨r, j, none⟩ u k (by
    rintro rfl
    rw [hr] at hb
    injection hb with hb
    injection hb with _ hb
    exact ht hb.symm)).trans hb⟩
theorem pg_ne_row {α : Type} {d : Kd α} {e b m : Nat} {w : World} {o : Nat → Prop} {v : Value} {xs : List α} {f : Int → Option ByteArray} (h : d.R e w b o v xs) (hm : IsPg w m f) : some m ≠ v.ownBlock := by
  intro hk
  obtain ⟨c1, e1⟩ := Kd.R_typed h m hk.symm
  obtain ⟨es, c, e2, _⟩ := hm
  rw [e1] at e2
  cases e2
end Go.Proofs.Ytpeeojbhfebcdaa.V
end
