/- PruneTurned, walked. -/
import Derived.Test.YtfblelkegebdiaaPruneMoreW
import Derived.Test.YtfblelkegebdiaaPT
import Derived.Test.YtfblelkegebdiaaMG
import Derived.DeepKeys4
namespace Go.Proofs.Ytfblelkegebdiaa.V
open Go.Proofs Go.RowKit Go.Lib Go.Proofs.YtfblelkegebdiaaW.PrintWords Go.Proofs.YtfblelkegebdiaaW.PrintLast Go.Proofs.YtfblelkegebdiaaW.PrintMore Go.Proofs.YtfblelkegebdiaaM
attribute [local go_sem] max_two min_two   -- for this text's walks alone
set_option linter.unusedVariables false
set_option linter.unusedSimpArgs false

theorem laidOutP : laidOutB Try.prog = true := by kernel_rfl
theorem row50 : (50 : TypeId) < Try.prog.types.size := of_decide_eq_true (by kernel_rfl)
theorem wide50 : (match Try.prog.underlying 50 with | some (.array _ _) | some (.struct _) => true | _ => false) = true := by rw [Try.underlying50]
set_option maxRecDepth 100000 in
theorem law50 : WideMaps.KeyLaw Try.prog 50 := deep_law_laid laidOutP (m := 2) (by omega) row50 (by kernel_rfl) wide50
theorem cells50 : Try.prog.cellsOf 50 = 2 := by kernel_rfl
theorem cells3' : Try.prog.cellsOf 3 = 1 := by kernel_rfl
def eP (x : Pr) : Value := .agg #[.int .i64 x.f0, .int .i64 x.f1]
def wfP (x : Pr) : Prop := (Lit.int .i64 x.f0).wf = true ∧ (Lit.int .i64 x.f1).wf = true
theorem lit3 (d : Nat) (a : Int) (h : (Lit.int .i64 a).wf = true) : Try.prog.keyLits (d + 1) 3 [.int .i64 a] = some [.int .i64 a] := by
  simp only [Program.keyLits, Try.underlying3, h, and_self, if_true]
theorem lit50 (d : Nat) (a b : Int) (h : (Lit.int .i64 a).wf = true) (h2 : (Lit.int .i64 b).wf = true) : ∃ L, Try.prog.keyLits (d + 1 + 1) 50 [.int .i64 a, .int .i64 b] = some L := by
  rw [Program.keyLits.eq_def]
  simp only [Try.underlying50, cells50]
  simp [cells3', lit3 d a h, lit3 d b h2]
theorem key50 (x : Pr) (h : wfP x) : ∃ l, keyOf Try.prog 50 (eP x) = some l := by
  have h1 : Try.prog.keyType 50 = true := by kernel_rfl
  obtain ⟨L, hL⟩ := lit50 156 x.f0 x.f1 h.1 h.2
  have hs : Try.prog.types.size + 1 = 156 + 1 + 1 := by kernel_rfl
  rw [← hs] at hL
  have hf : (eP x).formed Try.prog 50 = true := by simp [eP, Value.formed, Try.underlying50, cells50]
  refine ⟨.string (keyBytes L), ?_⟩
  unfold keyOf
  rw [Try.underlying50]
  simp only [h1, hf, Bool.and_self, if_true]
  show (Try.prog.keyLits _ 50 [.int .i64 x.f0, .int .i64 x.f1]).map _ = _
  rw [hL]
  rfl
theorem keysP : Keys Try.prog 50 eP wfP where
  inj := fun x y h => by
    cases x; cases y
    simp [eP] at h
    simp [h.1, h.2]
  keyed := Go.Maps.Keyed.of_law law50
  key := key50
theorem zero4 (w : World) : (zeroValue 4).run Try.prog w = .ok (.bool false) w := by kernel_rfl
theorem at_mem {l : List Pr} {i : Nat} (h : i < l.length) : atP l i ∈ l := by
  have e : atP l i = l[i] := by unfold atP; simp [List.getD, h]
  rw [e]; exact List.getElem_mem h
theorem wf_small {x : Int} (h0 : 0 ≤ x) (h1 : x ≤ 1000000) : (Lit.int .i64 x).wf = true := by
  have e1 : IntKind.i64.min = -9223372036854775808 := by decide
  have e2 : IntKind.i64.max = 9223372036854775807 := by decide
  simp [Lit.wf, e1, e2]
  omega
def metF (l : List Pr) (k : Nat) : Pr → Option Bool := fun p => if p ∈ l.take k then some true else none
theorem metF_snoc (l : List Pr) (k : Nat) (h : k < l.length) : ∀ n, metF l (k + 1) n = upd (metF l k) (atP l k) true n := by
  intro n
  have e : atP l k = l[k] := by unfold atP; simp [List.getD, h]
  unfold metF upd
  rw [List.take_succ_eq_append_getElem h, e]
  by_cases h1 : n = l[k]
  · rw [if_pos h1, if_pos (by rw [List.mem_append, List.mem_singleton]; exact .inr h1)]
  · rw [if_neg h1]
    show (if n ∈ List.take k l ++ [l[k]] then some true else none) = (if n ∈ List.take k l then some true else none)
    by_cases h2 : n ∈ l.take k
    · rw [if_pos h2, if_pos (by rw [List.mem_append]; exact .inl h2)]
    · rw [if_neg h2, if_neg (by rw [List.mem_append, List.mem_singleton]; exact fun h => h.elim h2 h1)]
theorem turn_rem (n : Nat) (turn : Int) (hn : 0 < n) (h25 : n ≤ 25) : ∃ T : Nat, T < n ∧ (wrap64 (turn.tmod n + n)).tmod n = (T : Int) := by
  have h1 : -(n : Int) < turn.tmod n := Int.lt_tmod_of_pos _ (by omega)
  have h2 : turn.tmod n < n := Int.tmod_lt_of_pos _ (by omega)
  have h3 : wrap64 (turn.tmod n + n) = turn.tmod n + n := by unfold wrap64; omega
  rw [h3]
  have h4 : 0 ≤ (turn.tmod n + n).tmod n := Int.tmod_nonneg _ (by omega)
  have h5 : (turn.tmod n + n).tmod n < n := Int.tmod_lt_of_pos _ (by omega)
  exact ⟨((turn.tmod n + n).tmod n).toNat, by omega, by omega⟩
set_option maxHeartbeats 8000000 in
set_option maxRecDepth 100000 in
theorem turned_in (w : World) (A : Option Addr) (cp : Nat) (l : List Bx) (turn : Int) (hr : Kd.C k28 w A l.length l) (hc : l.length ≤ cp) (hl : l.length ≤ 25) (hn0 : 0 < l.length) :
    Calls Try.prog 5 #[.slice A l.length cp, .int .i64 turn] w (T_ok w) := by
  have HR := Aside0.mk hr
  have HC := Aside0.mk hc
  have hPA := fun (W : World) (h : Below w.heap.size w W) => pairs_any W A cp l (Kd.C_below hr h) hc (by omega)
  have HPA := Aside0.mk hPA
  obtain ⟨n, hn⟩ : ∃ n, n = l.length := ⟨_, rfl⟩
  have HN := Aside0.mk hn
  rw [← hn] at HPA hl hn0 ⊢
  clear hr hc hPA hn
  have d1 : decide (25 < (n : Int)) = false := decide_eq_false (by omega)
  have d2 : decide (25 < n) = false := decide_eq_false (by omega)
  have d3 : ((n : Int) == 0) = false := by simp; omega
  have d4 : (n == 0) = false := by simp; omega
  have d5 : (n = 0) = False := eq_false (by omega)
  have d6 : ((n : Int) = 0) = False := eq_false (by omega)
  have HAL := Aside0.mk alive_any
  have hmm := @run_makeMap Try.prog
  go_enter Try.func5, Try.ntmps5
  go_wp2_with (fail)
  with_reducible refine (HAL.out _).mono ?_
  rintro e w1 ⟨rfl, hb⟩
  have HB1 := Aside0.mk hb
  clear hb HAL
  go_upto_region 7 with (fail)
  obtain ⟨T, hT, eT⟩ := turn_rem n turn hn0 hl
  rw [eT]
  have HT := Aside0.mk hT
  clear eT d1 d2 d3 d4
  go_wp2_with (fail)
  go_loopg [7, 46] n (fun kx v7 v46 wr => ∃ k : Nat, v46 = .int .i64 k ∧ Aside0 (k + kx = n) ∧ Aside0 (k28.R 28 wr w.heap.size (fun _ => True) v7 (turnL l T k)) ∧ Aside0 (Below w.heap.size w wr))
  case atStart => exact ⟨0, rfl, ⟨by omega⟩, ⟨Kd.R_nil _ _ _ _ _⟩, HB1⟩
  case round =>
    clear HB1
    obtain ⟨k, rfl, HK, HM, HB⟩ := hrel
    cases gk with
    | zero =>
      have hk : k = n := by have := HK.out; omega
      subst hk
      have d1 : decide ((k : Int) < (k : Int)) = false := decide_eq_false (by omega)
      have d2 : decide (k < k) = false := decide_eq_false (by omega)
      obtain ⟨Am, cm, rfl, hcm, hCm⟩ := Kd.R_reads HM.out
      have HP2 := fun (W : World) (h : Below wr.heap.size wr W) => pairs_any W Am cm (turnL l T k) (Kd.C_below hCm h) hcm (by rw [turnL_length]; omega)
      rw [turnL_length] at HP2 ⊢
      have HPP := Aside0.mk HP2
      clear HP2 hCm hcm
      go_wp2_with (fail)
      with_reducible refine (HPA.out _ HB.out).mono ?_
      rintro e w2 ⟨v, rfl, hR, hb⟩
      have HQ1 := Aside0.mk hb
      have HB2 := Aside0.mk (below_step HB.out hb)
      have PA := Aside0.mk (Kd.R_lower hR HB.out.size)
      clear hR hb
      go_wp2_with (fail)
      with_reducible refine (HPP.out _ HQ1.out).mono ?_
      rintro e w3 ⟨v2, rfl, hR, hb⟩
      have HB3 := Aside0.mk (below_step HB2.out hb)
      have PA3 := Aside0.mk (Kd.R_below PA.out hb)
      have PB3 := Aside0.mk (Kd.R_lower hR HB2.out.size)
      have PA4 := Aside0.mk (Kd.R_mono (ok' := fun k => k ≠ w3.heap.size) (Kd.R_elderB PA3.out w3.heap.size (Nat.le_refl _)) (fun _ h => h.2))
      have PB4 := Aside0.mk (Kd.R_mono (ok' := fun k => k ≠ w3.heap.size) (Kd.R_elderB PB3.out w3.heap.size (Nat.le_refl _)) (fun _ h => h.2))
      clear hR hb
      obtain ⟨Aa, ca, rfl, hca, hCa⟩ := Kd.R_reads PA3.out
      obtain ⟨Ab, cb, rfl, hcb, hCb⟩ := Kd.R_reads PB3.out
      obtain ⟨pa, hpa⟩ : ∃ pa, pa = pairsOf l := ⟨_, rfl⟩
      obtain ⟨pb, hpb⟩ : ∃ pb, pb = pairsOf (turnL l T k) := ⟨_, rfl⟩
      have hlen : pb.length = pa.length := by
        rw [hpa, hpb]
        exact turned_len l _ T (by rw [← HN.out]; exact HT.out) (by rw [turnL_length, HN.out]) (fun i hi => turnL_at l T k i (by rw [HN.out]; exact hi))
      rw [← hpa] at hCa PA4 ⊢
      rw [← hpb] at hCb PB4 ⊢
      rw [hlen] at hCb PB4 ⊢
      obtain ⟨N, hN⟩ : ∃ N, N = pa.length := ⟨_, rfl⟩
      rw [← hN] at hCa hCb PA4 PB4 hlen ⊢
      have hNm : N ≤ 9223372036854775807 := hCa.2.1
      have G1 := Aside0.mk hpa
      have G2 := Aside0.mk hpb
      have G3 := Aside0.mk hN
      have G4 := Aside0.mk hlen
      clear hpa hpb hlen hN hCa hCb hca hcb PA3 PB3
      go_wp2_with (fail)
      have hlt := Nat.lt_of_lt_of_le (Nat.lt_succ_self w3.heap.size) (Nat.le_of_eq (show w3.heap.size + 1 = (w3.alloc (.map #[] 0)).heap.size from by rw [World.size_alloc]))
      obtain ⟨mb, hmb⟩ : ∃ mb, mb = w3.heap.size := ⟨_, rfl⟩
      have M0 := Aside0.mk (show IsMap eP Value.bool wfP (w3.alloc (.map #[] 0)) mb (metF pa 0) from by rw [hmb]; exact (IsMap.made w3).congr (fun n => by unfold metF; simp))
      have HMB := Aside0.mk (show w.heap.size ≤ mb from by rw [hmb]; exact HB3.out.size)
      rw [← hmb] at PA4 PB4
      rw [← hmb]
      clear hlt hmb
      go_loopg [68] N (fun kx v68 wr => ∃ i : Nat, v68 = .int .i64 i ∧ Aside0 (i + kx = N) ∧ Aside0 (IsMap eP Value.bool wfP wr mb (metF pa i)) ∧ Aside0 (k50.R 50 wr w.heap.size (fun k => k ≠ mb) (.slice Aa N ca) pa) ∧ Aside0 (k50.R 50 wr w.heap.size (fun k => k ≠ mb) (.slice Ab N cb) pb) ∧ Aside0 (Below w.heap.size w wr))
      case atStart => exact ⟨0, rfl, ⟨by omega⟩, M0, ⟨Kd.R_alloc PA4.out _⟩, ⟨Kd.R_alloc PB4.out _⟩, ⟨below_alloc HB3.out _⟩⟩
      case round =>
        clear M0 PA4 PB4
        obtain ⟨i, rfl, HI, HMM, HCa, HCb, HBB⟩ := hrel
        cases gk with
        | zero =>
          have hi : i = N := by have := HI.out; omega
          subst hi
          have f1 : decide ((i : Int) < (i : Int)) = false := decide_eq_false (by omega)
          have f2 : decide (i < i) = false := decide_eq_false (by omega)
          go_wp2_with (fail)
          clear f1 f2
          go_loopg [77] i (fun kx v77 wr => ∃ j : Nat, v77 = .int .i64 j ∧ Aside0 (j + kx = i) ∧ Aside0 (IsMap eP Value.bool wfP wr mb (metF pa i)) ∧ Aside0 (k50.R 50 wr w.heap.size (fun k => k ≠ mb) (.slice Ab i cb) pb) ∧ Aside0 (Below w.heap.size w wr))
          case atStart => exact ⟨0, rfl, ⟨by omega⟩, HMM, HCb, HBB⟩
          case round =>
            clear HMM HCa HCb HBB
            obtain ⟨j, rfl, HJ, HMM, HCb, HBB⟩ := hrel
            cases gk with
            | zero =>
              have hj : j = i := by have := HJ.out; omega
              subst hj
              have f1 : decide ((j : Int) < (j : Int)) = false := decide_eq_false (by omega)
              have f2 : decide (j < j) = false := decide_eq_false (by omega)
              have f3 : (j == j) = true := by simp
              have f4 : ((j : Int) == (j : Int)) = true := by simp
              go_wp2_with (fail)
              go_ret
              exact ⟨rfl, HBB.out⟩
            | succ gk =>
              have hj : j < i := by have := HJ.out; omega
              have f1 : decide ((j : Int) < (i : Int)) = true := decide_eq_true (by omega)
              have f2 : decide (j < i) = true := decide_eq_true hj
              have f3 : (j < i) = True := eq_true hj
              have f4 : ((j : Int) < (i : Int)) = True := eq_true (by omega)
              have f5 : (0 ≤ (j : Int)) = True := eq_true (by omega)
              have hCC := (Kd.R_reads' HCb.out).2.2
              rw [G4.out] at hCC
              obtain ⟨ad, rfl, x0, x1⟩ := at_T50 hCC j hj
              have hmem : atP pb j ∈ pairsOf (turnL l T k) := by rw [← G2.out]; exact at_mem (by rw [G4.out]; exact hj)
              obtain ⟨u, v, e, huv, hv, hne, hin⟩ := turned_mem l _ T (by rw [turnL_length, HN.out]) (fun i hi => turnL_at l T k i (by rw [HN.out]; exact hi)) _ hmem
              rw [e] at x0 x1
              rw [← HN.out] at hv hne hin
              rw [← G1.out] at hin
              obtain ⟨x, hx⟩ : ∃ x, x = (u + T) % k := ⟨_, rfl⟩
              obtain ⟨y, hy⟩ : ∃ y, y = (v + T) % k := ⟨_, rfl⟩
              have hxi : ((u : Int) + (T : Int)).tmod (k : Int) = (x : Int) := by rw [Int.tmod_eq_emod_of_nonneg (by omega), hx]; exact (Int.natCast_emod (u + T) k).symm
              have hyi : ((v : Int) + (T : Int)).tmod (k : Int) = (y : Int) := by rw [Int.tmod_eq_emod_of_nonneg (by omega), hy]; exact (Int.natCast_emod (v + T) k).symm
              have hxe : ((u : Int) + (T : Int)) % (k : Int) = (x : Int) := by rw [hx]; exact (Int.natCast_emod (u + T) k).symm
              have hye : ((v : Int) + (T : Int)) % (k : Int) = (y : Int) := by rw [hy]; exact (Int.natCast_emod (v + T) k).symm
              have hTk := HT.out
              have hux : IntKind.i64.wrap ((u : Int) + (T : Int)) = (u : Int) + (T : Int) := by rw [IntKind.wrap_i64]; omega
              have hvx : IntKind.i64.wrap ((v : Int) + (T : Int)) = (v : Int) + (T : Int) := by rw [IntKind.wrap_i64]; omega
              have hx25 : x < k := by rw [hx]; exact Nat.mod_lt _ hn0
              have hy25 : y < k := by rw [hy]; exact Nat.mod_lt _ hn0
              rw [← hx, ← hy] at hin
              obtain ⟨lo, hi, hmk, hmin, hmax, hlo, hhi⟩ : ∃ lo hi : Nat, mk x y = ⟨(lo : Nat), (hi : Nat)⟩ ∧ Builtin.min2 (.int .i64 x) (.int .i64 y) = pure (.int .i64 lo) ∧ Builtin.max2 (.int .i64 x) (.int .i64 y) = pure (.int .i64 hi) ∧ lo < 100 ∧ hi < 100 := by
                refine ⟨min x y, max x y, rfl, ?_, ?_, by omega, by omega⟩
                · rw [min2_int]; congr 2; split <;> omega
                · rw [max2_int]; congr 2; split <;> omega
              rw [hmk] at hin
              have HIN := Aside0.mk hin
              have HLO := Aside0.mk (And.intro hlo hhi)
              have hmt : metF pa i ⟨(lo : Nat), (hi : Nat)⟩ = some true := by unfold metF; rw [if_pos (by rw [G3.out, List.take_length]; exact hin)]
              have HMT := Aside0.mk hmt
              have hk0 : ((k : Int) = 0) = False := eq_false (by omega)
              clear hmt hin hmem hCC e hne hx hy hmk huv
              go_wp2_with (fail)
              go_quiet (fail)
              have hlk := IsMap.look keysP (HMM.out.at (w' := (wr.alloc (.cells #[.int .i64 u, .int .i64 v] 50)).drewN nq) (Below.heap_alloc _ _ mb HMM.out.lt)) Try.underlying52 (.bool false) (zero4 _) ⟨(lo : Nat), (hi : Nat)⟩ ⟨wf_small (by show (0 : Int) ≤ (lo : Int); omega) (by show (lo : Int) ≤ 1000000; omega), wf_small (by show (0 : Int) ≤ (hi : Int); omega) (by show (hi : Int) ≤ 1000000; omega)⟩
              rw [HMT.out] at hlk
              change (Instr.lookup 52 (.map (some mb)) (.agg #[.int .i64 lo, .int .i64 hi]) false).run Try.prog _ = .ok (.bool true) _ at hlk
              clear hux hvx hxi hyi hxe hye
              go_wp2_with (fail)
              go_roundg gk
              case measure => omega
              case rel => exact ⟨j + 1, by first | rfl | go_num, ⟨by have := HJ.out; omega⟩, ⟨HMM.out.at (Below.heap_alloc _ _ mb HMM.out.lt)⟩, ⟨Kd.R_drewN (Kd.R_alloc HCb.out _) _⟩, ⟨pw_below_drewN (below_alloc HBB.out _) _⟩⟩
        | succ gk =>
          have hi : i < N := by have := HI.out; omega
          have f1 : decide ((i : Int) < (N : Int)) = true := decide_eq_true (by omega)
          have f2 : decide (i < N) = true := decide_eq_true hi
          have f3 : (i < N) = True := eq_true hi
          have f4 : ((i : Int) < (N : Int)) = True := eq_true (by omega)
          have f5 : (0 ≤ (i : Int)) = True := eq_true (by omega)
          have hCC := (Kd.R_reads' HCa.out).2.2
          rw [← G3.out] at hCC
          obtain ⟨ad, rfl, x0, x1⟩ := at_T50 hCC i hi
          have hmem : atP pa i ∈ pairsOf l := by rw [← G1.out]; exact at_mem (by rw [← G3.out]; exact hi)
          have hwf : wfP (atP pa i) := by
            rw [mem_pairsOf] at hmem
            obtain ⟨u, v, h1, h2, _, e⟩ := hmem
            rw [e]
            have := HN.out
            exact ⟨wf_small (by show (0 : Int) ≤ (u : Int); omega) (by show (u : Int) ≤ 1000000; omega), wf_small (by show (0 : Int) ≤ (v : Int); omega) (by show (v : Int) ≤ 1000000; omega)⟩
          have hsn := metF_snoc pa i (by rw [← G3.out]; exact hi)
          obtain ⟨z, hz⟩ : ∃ z, z = atP pa i := ⟨_, rfl⟩
          rw [← hz] at x0 x1 hwf hsn
          obtain ⟨z0, z1⟩ := z
          have HWF := Aside0.mk hwf
          have HSN := Aside0.mk hsn
          clear hmem hwf hsn hz hCC
          go_wp2_with (at_mapUpdate; go_must (refine wpList_mapUpdate_g keysP _ rfl _ _ _ 52 rfl 4 Try.underlying52 mb (metF pa i) (⟨z0, z1⟩ : Pr) true rfl rfl rfl (HMM.out.at (Below.heap_alloc _ _ mb HMM.out.lt)) HWF.out ?_); intro w4 hm4 hg4; have M4 := Aside0.mk (hm4.congr HSN.out); have B4 := Aside0.mk (pw_below_grown (below_alloc HBB.out _) _ (below_size (below_alloc HBB.out _)) hg4 (by rintro k' e; injection e with e; rw [← e]; exact HMB.out)); have CA4 := Aside0.mk (Kd.R_grown (Kd.R_alloc HCa.out _) hg4 (fun k hk e => hk (by injection e))); have CB4 := Aside0.mk (Kd.R_grown (Kd.R_alloc HCb.out _) hg4 (fun k hk e => hk (by injection e))); clear hm4 hg4)
          go_roundg gk
          case measure => omega
          case rel => exact ⟨i + 1, by first | rfl | go_num, ⟨by have := HI.out; omega⟩, M4, CA4, CB4, B4⟩
    | succ gk =>
      have hk : k < n := by have := HK.out; omega
      have d1 : decide ((k : Int) < (n : Int)) = true := decide_eq_true (by omega)
      have d2 : decide (k < n) = true := decide_eq_true (by omega)
      obtain ⟨q, hq⟩ : ∃ q, q = (k + T) % n := ⟨_, rfl⟩
      have hqn : q < n := by rw [hq]; exact Nat.mod_lt _ hn0
      have hqi : ((k : Int) + (T : Int)) % (n : Int) = (q : Int) := by rw [hq]; exact (Int.natCast_emod (k + T) n).symm
      have hqt : ((k : Int) + (T : Int)).tmod (n : Int) = (q : Int) := by rw [Int.tmod_eq_emod_of_nonneg (by omega)]; exact hqi
      have hL := Kd.C_below HR.out HB.out
      rw [← HN.out] at hL
      obtain ⟨ad, rfl, x0, x1, x2, x3⟩ := at_T28 hL q hqn
      have HQ := Aside0.mk hq
      have d8 : (q < n) = True := eq_true hqn
      have d9 : ((q : Int) < (n : Int)) = True := eq_true (by omega)
      have d10 : (0 ≤ (q : Int)) = True := eq_true (by omega)
      have hT2 := HT.out
      obtain ⟨p0, hp0⟩ : ∃ x, x = at_ l q := ⟨_, rfl⟩
      rw [← hp0] at x0 x1 x2 x3
      have hsn := turnL_snoc l T k
      rw [← HN.out, ← hq, ← hp0] at hsn
      obtain ⟨a0, a1, a2, a3⟩ := p0
      have HSN := Aside0.mk hsn
      have hl5 : (turnL l T k).length ≤ 25 := by rw [turnL_length]; omega
      clear hsn hp0 hq hL hqt
      go_wp2_with (first
        | ((with_reducible refine gate_builtin (b := .append) (xs := #[.tmp 49, .tmp 58]) rfl ?_); at_builtin; go_must (refine Kd.R_append k28 w.heap.size rfl (.tmp 49) (.tmp 58) 22 28 (.agg #[(.int .i64 0), (.int .i64 0), (.int .i64 0), (.int .i64 0)]) 32 rfl Try.underlying22 info28 rfl (by decide) (by omega) u7 (turnL l T k) (⟨a0, a1, a2, a3⟩ : Bx) [.int .i64 a0, .int .i64 a1, .int .i64 a2, .int .i64 a3] (fun _ => True) (fun _ => False) rfl rfl (k28_mkM _ _ _ _) (fun _ hk => hk.elim) (fun _ _ => trivial) HM.out HB.out HB.out.size (by omega) ?_); intro v5_ w5_ ho_ hb_ hg_ hat_; rw [← HSN.out] at ho_; have HR2 := Aside0.mk ho_; have HB2 := Aside0.mk hb_; clear ho_ hb_ hg_ hat_))
      go_roundg gk
      case measure => omega
      case rel => exact ⟨k + 1, by first | rfl | go_num, ⟨by have := HK.out; omega⟩, HR2, HB2⟩
set_option maxHeartbeats 8000000 in
theorem turned_none (w : World) (A : Option Addr) (cp : Nat) (turn : Int) :
    Calls Try.prog 5 #[.slice A 0 cp, .int .i64 turn] w (T_ok w) := by
  have HAL := Aside0.mk alive_any
  have HPA := Aside0.mk (fun W => pairs_any W none 0 [] (Kd.C_nil _ _) (Nat.le_refl _) (by decide))
  have HSO := Aside0.mk (fun W => sorted_any W none 0 [] (Kd.C_nil _ _) (Nat.le_refl _) (by decide))
  go_enter Try.func5, Try.ntmps5
  go_wp2_with (fail)
  with_reducible refine (HAL.out _).mono ?_
  rintro e w1 ⟨rfl, hb⟩
  have HB1 := Aside0.mk hb
  clear hb HAL
  go_wp2_with (fail)
  refine (HPA.out _).mono ?_
  rintro e w2 ⟨v, rfl, hR, hb⟩
  have HB2 := Aside0.mk (below_step HB1.out hb)
  obtain ⟨A2, c2, rfl⟩ := Kd.R_slice hR
  rw [show (pairsOf []).length = 0 from rfl]
  clear hb hR HPA
  go_wp2_with (fail)
  refine (HSO.out _).mono ?_
  rintro e w3 ⟨v, d, rfl, hR, hp, hb, -⟩
  have HB3 := Aside0.mk (below_step HB2.out hb)
  obtain ⟨A3, c3, rfl⟩ := Kd.R_slice hR
  have hd : d = [] := List.Perm.eq_nil hp
  subst hd
  rw [show (([] : List Nat).map fun i : Nat => (i : Int)).length = 0 from rfl]
  clear hb hR HSO hp
  go_wp2_with (fail)
  go_ret
  exact ⟨rfl, HB3.out⟩
set_option maxHeartbeats 8000000 in
theorem turned_any (w : World) (A : Option Addr) (cp : Nat) (l : List Bx) (turn : Int) (hr : Kd.C k28 w A l.length l) (hc : l.length ≤ cp) (wt : (Lit.int .i64 turn).wf = true) :
    Calls Try.prog 5 #[.slice A l.length cp, .int .i64 turn] w fun e w' => e = .returned (.bool true) ∧ Below w.heap.size w w' := by
  by_cases hl : l.length ≤ 25
  · by_cases h0 : l.length = 0
    · rw [h0]
      exact turned_none w A cp turn
    · exact turned_in w A cp l turn hr hc hl (by omega)
  · have HAL := Aside0.mk alive_any
    obtain ⟨n, hn⟩ : ∃ n, n = l.length := ⟨_, rfl⟩
    rw [← hn] at hl ⊢
    have d1 : decide (25 < (n : Int)) = true := decide_eq_true (by omega)
    have d2 : decide (25 < n) = true := decide_eq_true (by omega)
    clear hr hc hl hn
    go_enter Try.func5, Try.ntmps5
    go_wp2_with (fail)
    with_reducible refine (HAL.out _).mono ?_
    rintro e w1 ⟨rfl, hb⟩
    have HB1 := Aside0.mk hb
    clear hb HAL
    go_wp2_with (fail)
    go_ret
    exact ⟨rfl, HB1.out⟩
end Go.Proofs.Ytfblelkegebdiaa.V
