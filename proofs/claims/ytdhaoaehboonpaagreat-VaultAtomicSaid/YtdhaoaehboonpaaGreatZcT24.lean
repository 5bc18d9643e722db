/- Of the texts that the row stands on, what it needs (part 24), put together by a program of this session. -/
import Derived.Test.YtdhaoaehboonpaaGreatZcT23
import Derived.StillTailTactics
import Derived.BigQuiet
section
namespace Go.Proofs.YtdhaoaehboonpaaGreat.V
open Go.RowKit Go.Proofs.YtdhaoaehboonpaaGreatW.PrintWords Go.Proofs.YtdhaoaehboonpaaGreatW.PrintLast Go.Proofs.YtdhaoaehboonpaaGreatW.PrintMore Go.Proofs.YtdhaoaehboonpaaGreatM
set_option linter.unusedVariables false
set_option linter.unusedSimpArgs false
set_option maxHeartbeats 16000000 in
set_option maxRecDepth 100000 in
theorem plan_any (w : World) (A : Option Addr) (c : Nat) (l : List R2) (B : Option Addr) (d : Nat) (hv : List R2) (D : Option Addr) (f : Nat) (fr : List Int)
    (h : Kd.C kR w A l.length l) (hc : l.length ≤ c) (hl : l.length ≤ 9000)
    (h2 : Kd.C kR w B hv.length hv) (hd : hv.length ≤ d) (hl2 : hv.length ≤ 10000) (hw2 : ∀ x ∈ hv, wfS x.2)
    (h3 : Kd.C (Kd.int .i64) w D fr.length fr) (hf : fr.length ≤ f) (hl3 : fr.length ≤ 10000) :
    Calls Tryz.prog 42 #[.slice A l.length c, .slice B hv.length d, .slice D fr.length f] w fun e w' => ∃ v, e = .returned (.tuple #[v, .int .i64 (planE l hv fr).2.1, .int .i64 (planE l hv fr).2.2]) ∧ kR.R 106 w' w.heap.size (fun _ => True) v (planE l hv fr).1 ∧ Below w.heap.size w w' := by
  have HA := Aside0.mk h
  have HB := Aside0.mk h2
  have HD := Aside0.mk h3
  have HAC := Aside0.mk hc
  have HBC := Aside0.mk hd
  have HDC := Aside0.mk hf
  have HW2 := Aside0.mk hw2
  have HR := Aside0.mk (right_any A c l w h hc (by omega))
  have HM := Aside0.mk (fun (W : World) (hb : Below w.heap.size w W) => may_any W B d hv D f fr (Kd.C_below h2 hb) hd (by omega) (Kd.C_below h3 hb) hf (by omega))
  obtain ⟨rt, hrt⟩ : ∃ r, r = rightF (-1) l := ⟨_, rfl⟩
  obtain ⟨my, hmy⟩ : ∃ r, r = mayE (hv.map (·.1)) fr := ⟨_, rfl⟩
  obtain ⟨res, hres⟩ : ∃ r, r = planE l hv fr := ⟨_, rfl⟩
  obtain ⟨n, hn⟩ : ∃ n, n = l.length := ⟨_, rfl⟩
  obtain ⟨p, hp⟩ : ∃ p, p = hv.length := ⟨_, rfl⟩
  obtain ⟨q, hq⟩ : ∃ q, q = fr.length := ⟨_, rfl⟩
  have HN := Aside0.mk hn
  have HP := Aside0.mk hp
  have HQ := Aside0.mk hq
  have HRT := Aside0.mk hrt
  have HMY := Aside0.mk hmy
  have HRES := Aside0.mk hres
  have hmm := @run_makeMap Tryz.prog
  rw [← hrt, ← hn] at HR
  rw [← hmy, ← hp, ← hq] at HM
  rw [← hres, ← hn, ← hp, ← hq]
  rw [← hn] at hl
  rw [← hp] at hl2
  rw [← hq] at hl3
  clear h hc h2 hd h3 hf hw2 hrt hmy hres hn hp hq
  cases rt with
  | false =>
    have HE := Aside0.mk (show res = ([], 0, 9) by rw [HRES.out]; unfold planE; rw [← HRT.out]; rfl)
    go_enter Tryz.func42, Tryz.ntmps42
    go_wp2_with (fail)
    with_reducible refine (HR.out).mono ?_
    rintro e w1 ⟨rfl, hb1⟩
    have HB1 := Aside0.mk hb1
    clear hb1
    go_wp2_with (fail)
    go_ret3
    exact ⟨_, by rw [HE.out]; rfl, by rw [HE.out]; exact Kd.R_nil _ _ _ _ _, HB1.out⟩
  | true =>
    cases my with
    | false =>
      have HE := Aside0.mk (show res = ([], 0, 9) by rw [HRES.out]; unfold planE; rw [← HRT.out, ← HMY.out]; rfl)
      go_enter Tryz.func42, Tryz.ntmps42
      go_wp2_with (fail)
      with_reducible refine (HR.out).mono ?_
      rintro e w1 ⟨rfl, hb1⟩
      have HB1 := Aside0.mk hb1
      clear hb1
      go_wp2_with (fail)
      with_reducible refine (HM.out _ HB1.out).mono ?_
      rintro e w2 ⟨rfl, hb2⟩
      have HB2 := Aside0.mk (below_step HB1.out hb2)
      clear hb2
      go_wp2_with (fail)
      go_ret3
      exact ⟨_, by rw [HE.out]; rfl, by rw [HE.out]; exact Kd.R_nil _ _ _ _ _, HB2.out⟩
    | true =>
      have HPL := Aside0.mk (show planE l hv fr = (if 21 < (lvs [] (l.map (cellE · 2))).length then ([], 0, 12)
     else if (planZ l hv fr).2.e = 0 then ((planZ l hv fr).2.out, (planZ l hv fr).1, 0) else ([], 0, (planZ l hv fr).2.e)) by unfold planE; rw [← HRT.out, ← HMY.out]; rfl)
      go_enter Tryz.func42, Tryz.ntmps42
      go_wp2_with (fail)
      with_reducible refine (HR.out).mono ?_
      rintro e w1 ⟨rfl, hb1⟩
      have HB1 := Aside0.mk hb1
      clear hb1
      go_wp2_with (fail)
      with_reducible refine (HM.out _ HB1.out).mono ?_
      rintro e w2 ⟨rfl, hb2⟩
      have HB2 := Aside0.mk (below_step HB1.out hb2)
      clear hb2
      clear HR HM HB1
      go_wp2_with (fail)
      go_loopg [9, 34] n (fun kx v9 v34 wr => ∃ i : Nat, v34 = .int .i64 i ∧ Aside0 (i + kx = n) ∧ Aside0 (kC.R 151 wr w.heap.size (fun k => w.heap.size ≤ k) v9 ((l.take i).map (cellE · 2))) ∧ Aside0 (Below w.heap.size w wr))
      case atStart => exact ⟨0, rfl, ⟨by omega⟩, ⟨Kd.R_nil _ _ _ _ _⟩, HB2⟩
      case round =>
        clear HB2
        obtain ⟨i, rfl, HI, HR, HBR⟩ := hrel
        cases gk with
        | succ gk =>
          have hi : i < n := by have := HI.out; omega
          have hil : i < l.length := by have := HN.out; omega
          have d1 : decide ((i : Int) < (n : Int)) = true := decide_eq_true (by omega)
          have d2 : decide (i < n) = true := decide_eq_true hi
          have d3 : (i < n) = True := eq_true hi
          have d4 : ((i : Int) < (n : Int)) = True := eq_true (by omega)
          have d5 : (0 ≤ (i : Int)) = True := eq_true (by omega)
          have hCW := Kd.C_below HA.out HBR.out
          rw [← HN.out] at hCW
          obtain ⟨ad, rfl, x0, x1⟩ := at_R hCW i hi
          have hvi : (l.take (i + 1)).map (cellE · 2) = (l.take i).map (cellE · 2) ++ [cellE (atR l i) 2] := by
            rw [List.take_succ_eq_append_getElem hil, List.map_append]
            congr 2
            unfold atR
            simp [List.getD, hil]
          have hcell := fun W => cell_any (atR l i) 2 W
          obtain ⟨a, ha⟩ : ∃ a, a = (atR l i).1 := ⟨_, rfl⟩
          obtain ⟨b, hb⟩ : ∃ b, b = (atR l i).2 := ⟨_, rfl⟩
          obtain ⟨ce, hce⟩ : ∃ ce, ce = cellE (atR l i) 2 := ⟨_, rfl⟩
          rw [← hce] at hvi
          rw [← hce, ← ha, ← hb] at hcell
          rw [← ha] at x0
          rw [← hb] at x1
          have HVI := Aside0.mk hvi
          have HCE := Aside0.mk hcell
          have hlt : ((l.take i).map (cellE · 2)).length ≤ 10000 := by rw [List.length_map, List.length_take]; omega
          have HBA := Aside0.mk (show Below w.heap.size w (wr.alloc (.cells #[.int .i64 a, .string b] 50)) from below_alloc HBR.out _)
          have HRA := Aside0.mk (Kd.R_alloc HR.out (.cells #[.int .i64 a, .string b] 50))
          clear hvi hcell ha hb hce hCW hil
          go_wp2_with (fail)
          with_reducible refine (HCE.out _).mono ?_
          rintro e w3 ⟨rfl, hb3⟩
          have HB3 := Aside0.mk (below_step HBA.out hb3)
          have HR3 := Aside0.mk (Kd.R_below HRA.out hb3)
          clear hb3 HBA HRA
          go_wp2_with (first
            | ((with_reducible refine gate_builtin (b := .append) (xs := #[.tmp 38, .tmp 41]) rfl ?_); at_builtin; go_must (refine Kd.R_append kC w.heap.size rfl (.tmp 38) (.tmp 41) 149 151 (.agg #[(.int .i64 0), (.int .i64 0), (.int .i64 0), (.string ⟨#[]⟩)]) 40 rfl Tryz.underlying149 info151 rfl (by decide) (by omega) u9 ((l.take i).map (cellE · 2)) ce [.int .i64 ce.1, .int .i64 ce.2.1, .int .i64 ce.2.2.1, .string ce.2.2.2] (fun k => w.heap.size ≤ k) (fun _ => False) rfl rfl (kC_mkM _ _ _ ce) (fun _ hk => hk.elim) ?aF HR3.out HB3.out HB3.out.size (by omega) ?_); (case aF => exact fun k hk => Nat.le_trans HB3.out.size hk); intro v5_ w5_ ho_ hb_ hg_ hat_; rw [← HVI.out] at ho_; have HR5 := Aside0.mk ho_; have HB5 := Aside0.mk hb_; clear ho_ hb_ hg_ hat_))
          go_roundg gk
          case measure => omega
          case rel => exact ⟨i + 1, by first | rfl | go_num, ⟨by have := HI.out; omega⟩, HR5, HB5⟩
        | zero =>
          have hi : n = i := by have := HI.out; omega
          subst hi
          have d1 : decide ((n : Int) < (n : Int)) = false := decide_eq_false (by omega)
          have d2 : decide (n < n) = false := decide_eq_false (by omega)
          have hR := HR.out
          rw [List.take_of_length_le (by have := HN.out; omega)] at hR
          obtain ⟨A1, c1, Wf0, rfl, hc1, hC1, hWf, _⟩ := cells_only hR
          have hll : (l.map (cellE · 2)).length = n := by rw [List.length_map, HN.out]
          have hle := leaves_any wr Wf0 A1 c1 _ hC1 hWf hc1 (by omega)
          rw [hll] at hle hR
          have HR1 := Aside0.mk hR
          have HLE := Aside0.mk hle
          have hlv := lvs_length (l.map (cellE · 2)) []
          have HLV := Aside0.mk hlv
          rw [hll]
          clear hR hc1 hC1 hWf hle HR hlv hll
          go_wp2_with (fail)
          with_reducible refine (HLE.out).mono ?_
          rintro e w3 ⟨v, rfl, hr3, hb3⟩
          obtain ⟨A2, c2, rfl⟩ := Kd.R_slice hr3
          have HB3 := Aside0.mk (below_step HBR.out hb3)
          have HR3 := Aside0.mk (Kd.R_below HR1.out hb3)
          obtain ⟨m, hm⟩ : ∃ m, m = (lvs [] (l.map (cellE · 2))).length := ⟨_, rfl⟩
          have HMM := Aside0.mk hm
          rw [← hm]
          clear hr3 hb3 HBR HR1 hm HLE
          by_cases h21 : 21 < m
          · have d3 : decide (m > 21) = true := decide_eq_true h21
            have d4 : decide ((m : Int) > 21) = true := decide_eq_true (by omega)
            have HE := Aside0.mk (show res = ([], 0, 12) by rw [HRES.out, HPL.out, if_pos (by rw [← HMM.out]; exact h21)])
            go_wp2_with (fail)
            go_ret3
            exact ⟨_, by rw [HE.out]; rfl, by rw [HE.out]; exact Kd.R_nil _ _ _ _ _, HB3.out⟩
          · have d3 : decide (m > 21) = false := decide_eq_false h21
            have d4 : decide ((m : Int) > 21) = false := decide_eq_false (by omega)
            have HE := Aside0.mk (show res = if (planZ l hv fr).2.e = 0 then ((planZ l hv fr).2.out, (planZ l hv fr).1, 0) else ([], 0, (planZ l hv fr).2.e) by rw [HRES.out, HPL.out, if_neg (by rw [← HMM.out]; exact h21)])
            clear HPL HRES HMM HLV
            go_upto_region 12 with (fail)
            clear hmm d3 d4
            obtain ⟨g0, hg0⟩ : ∃ g0, g0 = w3.heap.size := ⟨_, rfl⟩
            have HPS := Aside0.mk (show IsPlan w ((w3.alloc (Obj.map #[] 0)).alloc (Obj.cells #[Value.map (some w3.heap.size), Value.slice D q f, Value.slice none 0 0, Value.int IntKind.i64 0] 158)) (w3.heap.size + 1) w3.heap.size ⟨knF (hv.take 0), fr, [], 0⟩ from
              ⟨D, f, .slice none 0 0, by
                have h1 := (MapKept.heap_alloc (w3.alloc (Obj.map #[] 0)) (Obj.cells #[Value.map (some w3.heap.size), Value.slice D q f, Value.slice none 0 0, Value.int IntKind.i64 0] 158)).1
                rw [World.size_alloc] at h1
                rw [h1, HQ.out], Nat.le_succ_of_le HB3.out.size, HB3.out.size, (IsMap.made w3).at ((below_alloc (Below.refl _ _) _).block _ (IsMap.made (eK := Value.string) (eV := Value.int .i64) (wf := wfS) w3).lt), HD.out, HDC.out, Kd.R_nil _ _ _ _ _, below_alloc (below_alloc HB3.out _) _⟩)
            have HR4 := Aside0.mk (Kd.R_alloc (Kd.R_alloc HR3.out (Obj.map #[] 0)) (Obj.cells #[Value.map (some w3.heap.size), Value.slice D q f, Value.slice none 0 0, Value.int IntKind.i64 0] 158))
            obtain ⟨w4, hw4⟩ : ∃ w4, w4 = ((w3.alloc (Obj.map #[] 0)).alloc (Obj.cells #[Value.map (some w3.heap.size), Value.slice D q f, Value.slice none 0 0, Value.int IntKind.i64 0] 158)) := ⟨_, rfl⟩
            rw [← hw4] at HPS HR4 ⊢
            rw [← hg0] at HPS ⊢
            clear hw4 hg0 HR3 HB3
            go_wp2_with (fail)
            go_loopg [54] p (fun kx v54 wr => ∃ i : Nat, v54 = .int .i64 i ∧ Aside0 (i + kx = p) ∧ Aside0 (IsPlan w wr (g0 + 1) g0 ⟨knF (hv.take i), fr, [], 0⟩) ∧ Aside0 (kC.R 151 wr w.heap.size (fun k => w.heap.size ≤ k) (.slice A1 n c1) (l.map (cellE · 2))))
            case atStart => exact ⟨0, rfl, ⟨by omega⟩, HPS, HR4⟩
            case round =>
              clear HPS HR4 d1 d2 HI
              obtain ⟨i, rfl, HI, HPS, HR4⟩ := hrel
              cases gk with
              | succ gk =>
                have hi : i < p := by have := HI.out; omega
                have hil : i < hv.length := by have := HP.out; omega
                have d1 : decide ((i : Int) < (p : Int)) = true := decide_eq_true (by omega)
                have d2 : decide (i < p) = true := decide_eq_true hi
                have d3 : (i < p) = True := eq_true hi
                have d4 : ((i : Int) < (p : Int)) = True := eq_true (by omega)
                have d5 : (0 ≤ (i : Int)) = True := eq_true (by omega)
                have hCW := Kd.C_below HB.out HPS.out.bel
                rw [← HP.out] at hCW
                obtain ⟨ad, rfl, x0, x1⟩ := at_R hCW i hi
                have hvi : knF (hv.take (i + 1)) = knS (knF (hv.take i)) (atR hv i) := by
                  rw [List.take_succ_eq_append_getElem hil]
                  unfold knF
                  rw [List.foldl_append]
                  unfold atR
                  simp [List.getD, hil]
                have hwf : wfS (atR hv i).2 := by
                  unfold atR
                  rw [List.getD_eq_getElem?_getD, List.getElem?_eq_getElem hil]
                  exact HW2.out _ (List.getElem_mem hil)
                unfold knS at hvi
                obtain ⟨a, ha⟩ : ∃ a, a = (atR hv i).1 := ⟨_, rfl⟩
                obtain ⟨b, hb⟩ : ∃ b, b = (atR hv i).2 := ⟨_, rfl⟩
                rw [← ha] at x0 hvi
                rw [← hb] at x1 hvi hwf
                have HWF := Aside0.mk hwf
                obtain ⟨kn, hkn⟩ : ∃ kn, kn = knF (hv.take i) := ⟨_, rfl⟩
                rw [← hkn] at hvi HPS
                have P5 := Aside0.mk (HPS.out.step (below_drew1 (below_alloc (Below.refl _ _) (.cells #[.int .i64 a, .string b] 106))))
                have R5 := Aside0.mk (Kd.R_drew (Kd.R_alloc HR4.out (.cells #[.int .i64 a, .string b] 106)))
                obtain ⟨E1, c5, v5, hbk, hq1, hq2, hkm, hq3, hq4, hq5, hq6⟩ := P5.out
                have hlk := hkm.look_ok keysS Tryz.underlying156 (.int .i64 0) (zero3 _) b hwf
                change (Instr.lookup 156 (.map (some g0)) (.string b) true).run Tryz.prog (wr.alloc (.cells #[.int .i64 a, .string b] 106)).drew = .ok (.tuple #[((kn b).map (Value.int .i64)).getD (.int .i64 0), .bool (kn b).isSome]) _ at hlk
                obtain ⟨y0, y1, y2, y3⟩ := cell68 hbk
                change (wr.alloc (.cells #[.int .i64 a, .string b] 106)).drew.cell? ⟨g0 + 1, 0, none⟩ = some (.map (some g0)) at y0
                have hzb := (MapKept.heap_alloc wr (.cells #[.int .i64 a, .string b] 106)).1
                have z0 : (wr.alloc (.cells #[.int .i64 a, .string b] 106)).drew.cell? ⟨wr.heap.size, 0, none⟩ = some (.int .i64 a) := (blk_cell (w := (wr.alloc (.cells #[.int .i64 a, .string b] 106)).drew) hzb 0).trans rfl
                have z1 : (wr.alloc (.cells #[.int .i64 a, .string b] 106)).drew.cell? ⟨wr.heap.size, 1, none⟩ = some (.string b) := (blk_cell (w := (wr.alloc (.cells #[.int .i64 a, .string b] 106)).drew) hzb 1).trans rfl
                clear hbk hq1 hq2 hkm hq3 hq4 hq5 hq6 y1 y2 y3 hwf hzb
                cases hkb : kn b with
                | some m0 =>
                  rw [hkb] at hvi hlk
                  change (Instr.lookup 156 (.map (some g0)) (.string b) true).run Tryz.prog (wr.alloc (.cells #[.int .i64 a, .string b] 106)).drew = .ok (.tuple #[.int .i64 m0, .bool true]) _ at hlk
                  have HVI := Aside0.mk (show knF (hv.take (i + 1)) = kn from hvi)
                  clear hvi ha hb hkn hkb hCW hil
                  go_upto_region 15 with (fail)
                  obtain ⟨wd, hwd⟩ : ∃ wd, wd = (wr.alloc (.cells #[.int .i64 a, .string b] 106)) := ⟨_, rfl⟩
                  rw [← hwd] at P5 R5 y0 hlk z0 z1 ⊢
                  clear hwd x0 x1
                  go_region
                  clear hlk
                  go_wp2_with (fail)
                  go_roundg gk
                  case measure => omega
                  case rel => exact ⟨i + 1, by first | rfl | go_num, ⟨by have := HI.out; omega⟩, by rw [HVI.out]; exact P5, R5⟩
                | none =>
                  rw [hkb] at hvi hlk
                  change (Instr.lookup 156 (.map (some g0)) (.string b) true).run Tryz.prog (wr.alloc (.cells #[.int .i64 a, .string b] 106)).drew = .ok (.tuple #[.int .i64 0, .bool false]) _ at hlk
                  have HVI := Aside0.mk (show knF (hv.take (i + 1)) = upd kn b a from hvi)
                  clear hvi ha hb hkn hkb hCW hil
                  go_upto_region 15 with (fail)
                  obtain ⟨wd, hwd⟩ : ∃ wd, wd = (wr.alloc (.cells #[.int .i64 a, .string b] 106)) := ⟨_, rfl⟩
                  rw [← hwd] at P5 R5 y0 hlk z0 z1 ⊢
                  clear hwd x0 x1
                  go_region
                  clear hlk
                  obtain ⟨we, hwe⟩ : ∃ we, we = wd.drew := ⟨_, rfl⟩
                  rw [← hwe] at P5 R5 y0 z0 z1 ⊢
                  clear hwe
                  go_upto_region 17 with (fail)
                  go_still_tail 8, (by kernel_rfl)
                  change wpList _ _ _ _ _ we.drew
                  have P6 := Aside0.mk (P5.out.step (below_drew1 (Below.refl _ _)))
                  have R6 := Aside0.mk (Kd.R_drew R5.out)
                  obtain ⟨wf, hwf⟩ : ∃ wf, wf = we.drew := ⟨_, rfl⟩
                  rw [← hwf] at P6 R6 ⊢
                  clear hwf y0 z0 z1 P5 R5
                  go_wp2_with (at_mapUpdate; go_must (refine wpList_mapUpdate_g keysS _ rfl _ _ _ 156 rfl 3 Tryz.underlying156 g0 kn b a rfl rfl rfl P6.out.kn HWF.out ?_); intro w7 hm7 hg7; have P7 := Aside0.mk (P6.out.mapped hm7 hg7); have R7 := Aside0.mk (R_map R6.out P6.out.kn hg7); clear hm7 hg7)
                  go_roundg gk
                  case measure => omega
                  case rel => exact ⟨i + 1, by first | rfl | go_num, ⟨by have := HI.out; omega⟩, by rw [HVI.out]; exact P7, R7⟩
              | zero =>
                have hi : p = i := by have := HI.out; omega
                subst hi
                have d1 : decide ((p : Int) < (p : Int)) = false := decide_eq_false (by omega)
                have d2 : decide (p < p) = false := decide_eq_false (by omega)
                rw [List.take_of_length_le (by have := HP.out; omega)] at HPS
                go_wp2_with (fail)
                clear d1 d2 HI
                go_loopg [81] n (fun kx v81 wr => ∃ (i : Nat) (done : List C4) (S : PS), v81 = .int .i64 i ∧ Aside0 (i + kx = n) ∧ Aside0 (done.length = i) ∧ Aside0 (done ++ (chainsF (l.drop i) S).1 = planC l hv fr ∧ (chainsF (l.drop i) S).2 = planS l hv fr) ∧ Aside0 (S.out.length ≤ 8 * i) ∧ Aside0 (IsPlan w wr (g0 + 1) g0 S) ∧ Aside0 (kC.R 151 wr w.heap.size (fun k => w.heap.size ≤ k) (.slice A1 n c1) (done ++ (l.drop i).map (cellE · 2))))
                case atStart => exact ⟨0, [], ⟨knF hv, fr, [], 0⟩, rfl, ⟨by omega⟩, ⟨rfl⟩, ⟨by rw [List.nil_append, List.drop_zero]; exact ⟨rfl, rfl⟩⟩, ⟨Nat.le_refl _⟩, HPS, HR4⟩
                case round =>
                  clear HPS HR4
                  obtain ⟨i, done, S, rfl, HI, HDL, HX, HSO, HPS, HR4⟩ := hrel
                  cases gk with
                  | succ gk =>
                    have hi : i < n := by have := HI.out; omega
                    have hil : i < l.length := by have := HN.out; omega
                    have d1 : decide ((i : Int) < (n : Int)) = true := decide_eq_true (by omega)
                    have d2 : decide (i < n) = true := decide_eq_true hi
                    have d3 : (i < n) = True := eq_true hi
                    have d4 : ((i : Int) < (n : Int)) = True := eq_true (by omega)
                    have d5 : (0 ≤ (i : Int)) = True := eq_true (by omega)
                    have hCW := Kd.C_below HA.out HPS.out.bel
                    rw [← HN.out] at hCW
                    obtain ⟨ad, rfl, x0, x1⟩ := at_R hCW i hi
                    have hdr : l.drop i = atR l i :: l.drop (i + 1) := by
                      rw [List.drop_eq_getElem_cons hil]
                      unfold atR
                      simp [List.getD, hil]
                    have hrr := rightF_mem l (-1) (by omega) HRT.out.symm (atR l i) (by unfold atR; rw [List.getD_eq_getElem?_getD, List.getElem?_eq_getElem hil]; exact List.getElem_mem hil)
                    have hX := HX.out
                    have hR4 := HR4.out
                    rw [hdr] at hX hR4
                    obtain ⟨rec, hrec⟩ : ∃ rec, rec = atR l i := ⟨_, rfl⟩
                    rw [← hrec] at hX hR4 x0 x1 hrr
                    obtain ⟨a, b⟩ := rec
                    change wr.cell? (ad.add (i * 2)) = some (.int .i64 a) at x0
                    change wr.cell? ⟨(ad.add (i * 2)).block, (ad.add (i * 2)).off + 1, none⟩ = some (.string b) at x1
                    have hbs : b.size ≤ 900 := hrr.2.2
                    rw [List.map_cons] at hR4
                    have P5 := Aside0.mk (HPS.out.step (below_alloc (Below.refl _ _) (.cells #[.int .i64 a, .string b] 50)))
                    have R5 := Aside0.mk (Kd.R_alloc hR4 (.cells #[.int .i64 a, .string b] 50))
                    have hzb := (MapKept.heap_alloc wr (.cells #[.int .i64 a, .string b] 50)).1
                    have HX2 := Aside0.mk hX
                    have HBS := Aside0.mk hbs
                    by_cases h24 : 24 < b.size
                    · have d6 : decide ((b.size : Int) > 24) = true := decide_eq_true (by omega)
                      have d7 : decide (b.size > 24) = true := decide_eq_true h24
                      have H24 := Aside0.mk h24
                      clear hX hR4 hrec hdr hrr hbs hCW hil HX HR4 hzb h24
                      go_wp2_with (fail)
                      with_reducible refine (chain_any P5.out b (by have := HBS.out; omega) (by have := HSO.out; omega)).mono ?_
                      rintro e w6 ⟨rfl, hp6, hk6⟩
                      have P6 := Aside0.mk hp6
                      obtain ⟨cs, hcs⟩ := P5.out.blk
                      have R6 := Aside0.mk (hk6.R hcs R5.out (by intro q hq; simp [kC, Kd.pair, Kd.int, Kd.string, Kd.scalar] at hq; omega))
                      have ho6 := chainF_out (pieces b) S
                      have hpl := piecesF_len b.size b
                      have HSO6 := Aside0.mk (show (chainF (pieces b) S).2.out.length ≤ 8 * (i + 1) by unfold pieces at ho6 ⊢; have := HSO.out; have := HBS.out; omega)
                      have HX3 := Aside0.mk (show (done ++ [cellE (a, b) (chainF (pieces b) S).1]) ++ (chainsF (l.drop (i + 1)) (chainF (pieces b) S).2).1 = planC l hv fr ∧ (chainsF (l.drop (i + 1)) (chainF (pieces b) S).2).2 = planS l hv fr by
                        have hX := HX2.out
                        unfold chainsF at hX; rw [if_pos H24.out] at hX; rw [List.append_assoc]; exact hX)
                      obtain ⟨N, hN⟩ : ∃ N, N = (chainF (pieces b) S).1 := ⟨_, rfl⟩
                      obtain ⟨T, hT⟩ : ∃ T, T = (chainF (pieces b) S).2 := ⟨_, rfl⟩
                      rw [← hN, ← hT] at HX3
                      rw [← hT] at P6 HSO6
                      rw [← hN]
                      have hce : ∀ N, cellE (a, b) N = (a, (b.size : Int), N, ⟨#[]⟩) := fun N => by unfold cellE; rw [if_neg (show ¬ b.size ≤ 24 by have := H24.out; omega)]
                      rw [hce] at HX3
                      obtain ⟨rest, hrest⟩ : ∃ rest, rest = (l.drop (i + 1)).map (cellE · 2) := ⟨_, rfl⟩
                      rw [hce, ← hrest] at R6
                      have HRS := Aside0.mk hrest
                      obtain ⟨xs, hxs⟩ : ∃ xs, xs = done ++ ((a, (b.size : Int), 2, ⟨#[]⟩) : C4) :: rest := ⟨_, rfl⟩
                      rw [← hxs] at R6
                      have hxl : i < xs.length := by rw [hxs, List.length_append, List.length_cons, HDL.out]; omega
                      have hxi : xs.getD (i : Int).toNat zC = (a, (b.size : Int), 2, ⟨#[]⟩) := by
                        rw [Int.toNat_natCast, hxs, List.getD_eq_getElem?_getD, List.getElem?_append_right (by have := HDL.out; omega), HDL.out, Nat.sub_self]; rfl
                      have hxset : xs.set i (a, (b.size : Int), N, ⟨#[]⟩) = (done ++ [(a, (b.size : Int), N, ⟨#[]⟩)]) ++ rest := by
                        rw [hxs, List.set_append_right _ _ (by have := HDL.out; omega), HDL.out, Nat.sub_self, List.append_assoc]; rfl
                      obtain ⟨gc, cap, e, hg1, hg2, cells, hgb⟩ := Kd.R_form R6.out (by omega)
                      injection e with e1 e2 e3
                      subst e1 e3
                      obtain ⟨ad2, ck, e4, hlen, hK, hcc⟩ := Kd.C_get (Kd.R_reads' R6.out).2.2 zC (i : Int) (by omega) (by omega)
                      injection e4 with e4
                      subst e4
                      rw [hxi] at hK
                      obtain rfl := kC_open hK
                      have hcc2 : ∀ j u, ([.int .i64 a, .int .i64 b.size, .int .i64 2, .string ⟨#[]⟩] : List Value)[j]? = some u → w6.cell? ⟨gc, (i : Int).toNat * kC.sz + j, none⟩ = some u := fun j u hu => by
                        have := hcc j u hu
                        rw [addr0] at this
                        exact this
                      have HCC2 := Aside0.mk hcc2
                      have HXL := Aside0.mk hxl
                      have HXSET := Aside0.mk hxset
                      have HXE := Aside0.mk e2
                      clear hp6 hk6 hcs ho6 hpl hce hN hT hrest hxs hxl hxi hxset hg1 hg2 hgb hlen hK hcc hcc2 e2 R5 P5 HX2
                      go_wp2_with (((refine gate_ (.store 3 (.tmp 97) (.tmp 95)) rfl ?_); go_must (refine Kd.R_store kC w.heap.size rfl rfl 3 (.tmp 97) (.tmp 95) rfl 151 (g := gc) (n := n) (cap := c1) (i : Int) 2 xs (a, (b.size : Int), N, ⟨#[]⟩) (.int .i64 N) [.int .i64 N] [.int .i64 a, .int .i64 b.size, .int .i64 2, .string ⟨#[]⟩] (fun k => w.heap.size ≤ k) (fun _ => False) rfl ?aO rfl rfl ?aT (by intro q hq; rw [List.mem_singleton] at hq; rw [hq]; rfl) R6.out (by omega) (by omega) rfl HCC2.out (by show 3 ≤ 4; decide) (kC_mkM _ _ _ (a, (b.size : Int), N, ⟨#[]⟩)) (fun _ hk => hk.elim) P6.out.bel ?_); (case aO => first | rfl | (rw [Int.toNat_natCast]; rfl) | (rw [Int.toNat_natCast]; show _ = i * 4 + 2; omega)); (case aT => kernel_rfl); intro w8 ho8 hb8 hg8; rw [Int.toNat_natCast, HXSET.out] at ho8; have R8 := Aside0.mk ho8; have P8 := Aside0.mk (P6.out.grown R6.out (Nat.le_refl _) (by decide) (by decide) (by simpa [Value.ownBlock] using hg8)); clear ho8 hb8 hg8))
                      rw [HRS.out] at R8
                      go_roundg gk
                      case measure => omega
                      case rel => exact ⟨i + 1, done ++ [(a, (b.size : Int), N, ⟨#[]⟩)], T, by first | rfl | go_num, ⟨by have := HI.out; omega⟩, ⟨by rw [List.length_append, HDL.out]; rfl⟩, HX3, HSO6, P8, R8⟩
                    · have d6 : decide ((b.size : Int) > 24) = false := decide_eq_false (by omega)
                      have d7 : decide (b.size > 24) = false := decide_eq_false h24
                      have HX3 := Aside0.mk (show (done ++ [cellE (a, b) 2]) ++ (chainsF (l.drop (i + 1)) S).1 = planC l hv fr ∧ (chainsF (l.drop (i + 1)) S).2 = planS l hv fr by
                        unfold chainsF at hX; rw [if_neg h24] at hX; rw [List.append_assoc]; exact hX)
                      have R6 := Aside0.mk (show kC.R 151 (wr.alloc (.cells #[.int .i64 a, .string b] 50)) w.heap.size (fun k => w.heap.size ≤ k) (.slice A1 n c1) ((done ++ [cellE (a, b) 2]) ++ (l.drop (i + 1)).map (cellE · 2)) by rw [List.append_assoc]; exact R5.out)
                      clear hX hR4 hrec hdr hrr hbs hCW hil HX HR4 hzb h24 R5
                      go_wp2_with (fail)
                      go_roundg gk
                      case measure => omega
                      case rel => exact ⟨i + 1, done ++ [cellE (a, b) 2], S, by first | rfl | go_num, ⟨by have := HI.out; omega⟩, ⟨by rw [List.length_append, HDL.out]; rfl⟩, HX3, ⟨by have := HSO.out; omega⟩, P5, R6⟩
                  | zero =>
                    have hi : n = i := by have := HI.out; omega
                    subst hi
                    have d1 : decide ((n : Int) < (n : Int)) = false := decide_eq_false (by omega)
                    have d2 : decide (n < n) = false := decide_eq_false (by omega)
                    have hX := HX.out
                    have hR := HR4.out
                    rw [List.drop_of_length_le (by have := HN.out; omega)] at hX hR
                    have hX1 : done = planC l hv fr := by rw [← hX.1]; simp [chainsF]
                    have hX2 : S = planS l hv fr := hX.2
                    rw [List.map_nil, List.append_nil, hX1] at hR
                    have hdl := HDL.out
                    rw [hX1] at hdl
                    subst hX2
                    obtain ⟨A4, c4, Wf, e4, hc4, hC4, hWf, hKK⟩ := cells_only hR
                    rw [hdl] at e4
                    injection e4 with e4 _ e5
                    subst e4 e5
                    have hle := leaves_any wr Wf A1 c1 _ hC4 hWf hc4 (by omega)
                    rw [hdl] at hle
                    have HLE := Aside0.mk hle
                    have hlv := lvs_length (planC l hv fr) []
                    rw [hdl] at hlv
                    have HLV := Aside0.mk hlv
                    have HKK := Aside0.mk hKK
                    have HFULL := Aside0.mk (show (planS l hv fr).e = 0 → ∀ y ∈ lvs [] (planC l hv fr), y ≠ [] from fun he => lvs_full _ _ (chainsF_ok l _ ⟨knF_pg (fun x hx => (mayE_pg HMY.out.symm).1 _ (List.mem_map_of_mem hx)), (mayE_pg HMY.out.symm).2⟩ (rightF_mem l (-1) (by omega) HRT.out.symm) he))
                    have HSO2 := Aside0.mk (show (planS l hv fr).out.length ≤ 72000 by have := HSO.out; omega)
                    clear hR hX hX1 hdl hc4 hC4 hWf hKK hle hlv HDL HX HSO HR4
                    go_wp2_with (fail)
                    with_reducible refine (HLE.out).mono ?_
                    rintro e w7 ⟨v, rfl, hr3, hb3⟩
                    obtain ⟨A3, c3, rfl⟩ := Kd.R_slice hr3
                    have P7 := Aside0.mk (HPS.out.step hb3)
                    have K7 := Aside0.mk (K61.below hb3)
                    have L7 := Aside0.mk (Kd.R_lower hr3 HPS.out.bel.size)
                    clear hr3 hb3 HLE HPS d1 d2
                    obtain ⟨LL, hLL⟩ : ∃ LL, LL = lvs [] (planC l hv fr) := ⟨_, rfl⟩
                    rw [← hLL] at L7 HFULL HLV ⊢
                    have HLL := Aside0.mk hLL
                    obtain ⟨m, hm⟩ : ∃ m, m = LL.length := ⟨_, rfl⟩
                    rw [← hm] at HLV L7 ⊢
                    have HMM := Aside0.mk hm
                    have hml : m ≤ 9001 := by have := HLV.out; omega
                    clear hLL hm
                    go_wp2_with (fail)
                    go_loopg [19, 102] m (fun kx v19 v102 wz => ∃ (i : Nat) (done : List S2) (S : PS), v102 = .int .i64 i ∧ Aside0 (i + kx = m) ∧ Aside0 (done.length ≤ i) ∧ Aside0 (done ++ (slotsF (LL.drop i) S).1 = (slotsF LL (planS l hv fr)).1 ∧ (slotsF (LL.drop i) S).2 = (slotsF LL (planS l hv fr)).2) ∧ Aside0 (S.out.length ≤ 72000 + i) ∧ Aside0 (S.e = 0 → (planS l hv fr).e = 0) ∧ Aside0 (IsPlan w wz (g0 + 1) g0 S) ∧ Aside0 ((kL Wf).R 149 wz w.heap.size (fun k => wr.heap.size ≤ k) (.slice A3 m c3) LL) ∧ Aside0 (K61 wr wz) ∧ Aside0 (kS.R 165 wz w.heap.size (fun k => w.heap.size ≤ k) v19 done))
                    case atStart => exact ⟨0, [], planS l hv fr, rfl, ⟨by omega⟩, ⟨Nat.le_refl _⟩, ⟨by rw [List.nil_append, List.drop_zero]; exact ⟨rfl, rfl⟩⟩, ⟨HSO2.out⟩, ⟨id⟩, P7, L7, K7, ⟨Kd.R_nil _ _ _ _ _⟩⟩
                    case round =>
                      clear P7 L7 K7
                      obtain ⟨i, done, S, rfl, HI, HDL, HX, HSO, HSE, HPS, HL4, HK4, HR4⟩ := hrel
                      rename World => wz
                      cases gk with
                      | succ gk =>
                        have hi : i < m := by have := HI.out; omega
                        have hil : i < LL.length := by have := HMM.out; omega
                        have d1 : decide ((i : Int) < (m : Int)) = true := decide_eq_true (by omega)
                        have d2 : decide (i < m) = true := decide_eq_true hi
                        have d3 : (i < m) = True := eq_true hi
                        have d4 : ((i : Int) < (m : Int)) = True := eq_true (by omega)
                        have d5 : (0 ≤ (i : Int)) = True := eq_true (by omega)
                        obtain ⟨ad3, ck, e5, hlen, hK, hcc⟩ := Kd.C_get (Kd.R_reads' HL4.out).2.2 ([] : List C4) (i : Int) (by omega) (by omega)
                        subst e5
                        have hdr : LL.drop i = LL.getD (i : Int).toNat [] :: LL.drop (i + 1) := by
                          rw [List.drop_eq_getElem_cons hil]
                          simp [List.getD, hil]
                        have hmem : LL.getD (i : Int).toNat [] ∈ LL := by
                          rw [Int.toNat_natCast, List.getD_eq_getElem?_getD, List.getElem?_eq_getElem hil]; exact List.getElem_mem hil
                        have hX := HX.out
                        rw [hdr] at hX
                        obtain ⟨x, hx⟩ : ∃ x, x = LL.getD (i : Int).toNat [] := ⟨_, rfl⟩
                        rw [← hx] at hX hK hmem
                        obtain ⟨A6, c6, rfl, hc6, hC6⟩ := hK
                        have x0 : wz.cell? (ad3.add i) = some (.slice A6 x.length c6) := by
                          have := hcc 0 _ rfl
                          rw [Int.toNat_natCast] at this
                          simpa [Kd.fixed, Kd.slice] using this
                        obtain ⟨E1, f1, v1, y0, y1, y2, y3, _⟩ := HPS.out.cells
                        have HX2 := Aside0.mk hX
                        have hlf := fun (W : World) (hk : K61 wr W) => leaf_list A6 c6 x W (C_mv (fun x c h => kC_all _ _ x c h) (HKK.out W hk) hC6)
                        have hLE := leafE_size x
                        obtain ⟨q6, hq6⟩ : ∃ q6, q6 = x.length := ⟨_, rfl⟩
                        have hC7 := fun (W : World) (hk : K61 wr W) => C_mv (w' := W) (fun x c h => kC_all _ _ x c h) (HKK.out W hk) hC6
                        rw [← hq6] at hlf x0 hC7
                        have HLF := Aside0.mk hlf
                        have HC7 := Aside0.mk hC7
                        have HLEs := Aside0.mk hLE
                        have HMEM := Aside0.mk hmem
                        have HQ6 := Aside0.mk hq6
                        clear hlf hC7 hLE hmem hX hx hdr hil hc6 hC6 hlen hcc hq6 HX
                        by_cases he : S.e = 0
                        · have d6 : (S.e == 0) = true := by simpa using he
                          have d7 : decide (S.e = 0) = true := decide_eq_true he
                          have HEE := Aside0.mk he
                          clear he
                          have hne : x ≠ [] := HFULL.out (HSE.out HEE.out) x HMEM.out
                          have hq7 : 0 < q6 := by rw [HQ6.out]; exact List.length_pos_iff.2 hne
                          have HX3 := Aside0.mk (show (done ++ [((atC x 0).1, putN S (leafE x).1 (leafE x).2)]) ++ (slotsF (LL.drop (i + 1)) (putS S (leafE x).1 (leafE x).2)).1 = (slotsF LL (planS l hv fr)).1 ∧ (slotsF (LL.drop (i + 1)) (putS S (leafE x).1 (leafE x).2)).2 = (slotsF LL (planS l hv fr)).2 by
                            have hX := HX2.out
                            rw [slotsF_cons, if_pos HEE.out] at hX
                            rw [List.append_assoc]; exact hX)
                          obtain ⟨ky, hky⟩ : ∃ ky, ky = (atC x 0).1 := ⟨_, rfl⟩
                          obtain ⟨bb, hbb⟩ : ∃ bb, bb = (leafE x).1 := ⟨_, rfl⟩
                          obtain ⟨bi, hbi⟩ : ∃ bi, bi = (leafE x).2 := ⟨_, rfl⟩
                          obtain ⟨ad6, e6⟩ : ∃ ad6, A6 = some ad6 := by
                            obtain ⟨ad, h1, _⟩ := at_C (HC7.out _ HK4.out) 0 hq7
                            exact ⟨ad, h1⟩
                          subst e6
                          have hz := fun (W : World) (hk : K61 wr W) => show W.cell? ad6 = some (.int .i64 ky) by
                            obtain ⟨ad, h1, h2, _⟩ := at_C (HC7.out W hk) 0 hq7
                            injection h1 with h1
                            subst h1
                            rw [hky]
                            have e0 : ad6.add (0 * 4) = ad6 := by simp [Addr.add]
                            rw [e0] at h2
                            exact h2
                          have HZ := Aside0.mk hz
                          rw [← hky, ← hbb, ← hbi] at HX3
                          rw [← hbb, ← hbi] at HLF
                          rw [← hbb] at HLEs
                          have K5 := Aside0.mk (HK4.out.trans (K61.below (below_drew1 (Below.refl _ _))))
                          have P5 := Aside0.mk (HPS.out.step (below_drew1 (Below.refl _ _)))
                          have L5 := Aside0.mk (Kd.R_drew HL4.out)
                          have R5 := Aside0.mk (Kd.R_drew HR4.out)
                          have z5 := HZ.out _ K5.out
                          have d8 : (0 < q6) = True := eq_true hq7
                          have d9 : ((0 : Int) < (q6 : Int)) = True := eq_true (by omega)
                          have hdl2 : done.length ≤ 10000 := by have := HDL.out; omega
                          clear hne hky hbb hbi hz HX2 HC7 HMEM
                          go_upto_region 30 with (fail)
                          clear x0 y0 y1 y2 y3
                          go_region_law (first
                            | (go_simp; go_at_call 98; (refine (HLF.out _ K5.out).mono ?_); rintro e w8 ⟨rfl, hb8⟩; have P8 := Aside0.mk (P5.out.step hb8); have L8 := Aside0.mk (Kd.R_below L5.out hb8); have R8 := Aside0.mk (Kd.R_below R5.out hb8); have K8 := Aside0.mk (K5.out.trans (K61.below hb8)); have z8 := HZ.out _ K8.out; clear hb8)
                            | (go_simp; go_at_call 97; (refine (put_any P8.out bb bi (wfS_small (by have := HLEs.out; omega)) (by have := HSO.out; omega)).mono ?_); rintro e w9 ⟨rfl, hp9, hk9⟩; have P9 := Aside0.mk hp9; obtain ⟨cs, hcs⟩ := P8.out.blk; have L9 := Aside0.mk (hk9.R hcs L8.out (by intro q hq; simp [Kd.fixed] at hq; omega)); have R9 := Aside0.mk (hk9.R hcs R8.out (by intro q hq; simp [kS, Kd.pair, Kd.int, Kd.scalar] at hq; omega)); have K9 := Aside0.mk (K8.out.trans (K61.kw hk9 hcs)); have z9 := HZ.out _ K9.out; obtain ⟨nn, hnn⟩ : ∃ nn, nn = putN S bb bi := ⟨_, rfl⟩; rw [← hnn] at HX3 ⊢; clear hp9 hk9 hcs hnn)
                            | (refine Kd.R_append_step kS w.heap.size rfl (.tmp 111) (.tmp 123) 161 165 (.agg #[(.int .i64 0), (.int .i64 0)]) 16 rfl Tryz.underlying161 info165 rfl (by decide) (by omega) u19 done (ky, nn) [.int .i64 ky, .int .i64 nn] (fun k => w.heap.size ≤ k) (fun _ => False) rfl rfl (kS_mkM _ _ _ (ky, nn)) (fun _ hk => hk.elim) (fun k hk => Nat.le_trans P9.out.bel.size hk) R9.out P9.out.bel P9.out.bel.size (by omega) ?_; intro v10 w10 ho_ hb_ hg_ hat_; have R10 := Aside0.mk ho_; have P10 := Aside0.mk (P9.out.grown R9.out (Nat.le_refl _) (by decide) (by decide) hg_); have L10 := Aside0.mk (Kd.R_over L9.out R9.out (by intro q hq; simp [Kd.fixed] at hq; omega) hg_); have K10 := Aside0.mk (K9.out.trans (K61.row R9.out (by decide) hg_)); clear ho_ hb_ hg_ hat_))
                          all_goals
                            go_wp2_with (fail)
                            go_roundg gk
                            case measure => omega
                            case rel => exact ⟨i + 1, done ++ [(ky, nn)], putS S bb bi, by first | rfl | go_num, ⟨by have := HI.out; omega⟩, ⟨by rw [List.length_append]; have := HDL.out; simp; omega⟩, HX3, ⟨by have := putS_out S bb bi; have := HSO.out; omega⟩, ⟨fun h => HSE.out (putS_e h)⟩, P10, L10, K10, R10⟩
                        · have d6 : (S.e == 0) = false := by simpa using he
                          have d7 : decide (S.e = 0) = false := decide_eq_false he
                          have HX3 := Aside0.mk (show done ++ (slotsF (LL.drop (i + 1)) S).1 = (slotsF LL (planS l hv fr)).1 ∧ (slotsF (LL.drop (i + 1)) S).2 = (slotsF LL (planS l hv fr)).2 by
                            have hX := HX2.out
                            rw [slotsF_cons, if_neg he] at hX; exact hX)
                          clear he HX2
                          go_wp2_with (fail)
                          go_roundg gk
                          case measure => omega
                          case rel => exact ⟨i + 1, done, S, by first | rfl | go_num, ⟨by have := HI.out; omega⟩, ⟨by have := HDL.out; omega⟩, HX3, ⟨by have := HSO.out; omega⟩, HSE, HPS, HL4, HK4, HR4⟩
                      | zero =>
                        have hi : m = i := by have := HI.out; omega
                        subst hi
                        have d1 : decide ((m : Int) < (m : Int)) = false := decide_eq_false (by omega)
                        have d2 : decide (m < m) = false := decide_eq_false (by omega)
                        have hX := HX.out
                        rw [List.drop_of_length_le (by have := HMM.out; omega)] at hX
                        have hX1 : done = (planT l hv fr).1 := by have := hX.1; rw [HLL.out] at this; unfold planT; rw [← this]; simp [slotsF]
                        have hX2 : S = (planT l hv fr).2 := by have := hX.2; rw [HLL.out] at this; exact this
                        obtain ⟨A9, c9, rfl, hc9, hC9⟩ := Kd.R_reads HR4.out
                        have hix := index_list A9 c9 done wz hC9
                        have hsz := indexE_size done
                        have hZ : planZ l hv fr = (putN S (indexE done).1 (indexE done).2, putS S (indexE done).1 (indexE done).2) := by unfold planZ; rw [← hX1, ← hX2]
                        obtain ⟨ib, hib⟩ : ∃ ib, ib = (indexE done).1 := ⟨_, rfl⟩
                        obtain ⟨is, his⟩ : ∃ is, is = (indexE done).2 := ⟨_, rfl⟩
                        rw [← hib, ← his] at hix hZ
                        rw [← hib] at hsz
                        have HIX := Aside0.mk hix
                        have HSZ := Aside0.mk hsz
                        have hE := HE.out
                        rw [hZ] at hE
                        change res = if (putS S ib is).e = 0 then ((putS S ib is).out, putN S ib is, 0) else ([], 0, (putS S ib is).e) at hE
                        have HE2 := Aside0.mk hE
                        clear hX hX1 hX2 hc9 hC9 hix hsz hZ hib his hE HE HX
                        go_wp2_with (fail)
                        with_reducible refine (HIX.out).mono ?_
                        rintro e w8 ⟨rfl, hb8⟩
                        have P8 := Aside0.mk (HPS.out.step hb8)
                        clear hb8 HPS HL4 HK4 HR4
                        go_wp2_with (fail)
                        with_reducible refine (put_any P8.out ib is (wfS_small (by have := HSZ.out; omega)) (by have := HSO.out; have := HLV.out; omega)).mono ?_
                        rintro e w9 ⟨rfl, hp9, hk9⟩
                        have P9 := Aside0.mk hp9
                        obtain ⟨N, hN⟩ : ∃ N, N = putN S ib is := ⟨_, rfl⟩
                        obtain ⟨T, hT⟩ : ∃ T, T = putS S ib is := ⟨_, rfl⟩
                        rw [← hT] at P9
                        rw [← hN, ← hT] at HE2
                        rw [← hN]
                        clear hp9 hk9 hN hT
                        by_cases he : T.e = 0
                        · have d6 : (T.e != 0) = false := by simpa using he
                          have d7 : (T.e == 0) = true := by simpa using he
                          have HE3 := Aside0.mk (show res = (T.out, N, 0) by rw [HE2.out, if_pos he])
                          obtain ⟨E1, f1, v1, y0, y1, y2, y3, hr⟩ := P9.out.cells
                          have HR9 := Aside0.mk hr
                          clear hr he
                          go_wp2_with (fail)
                          go_ret3
                          exact ⟨_, by rw [HE3.out]; rfl, by rw [HE3.out]; exact HR9.out, P9.out.bel⟩
                        · have d6 : (T.e != 0) = true := by simpa using he
                          have d7 : (T.e == 0) = false := by simpa using he
                          have HE3 := Aside0.mk (show res = ([], 0, T.e) by rw [HE2.out, if_neg he])
                          obtain ⟨E1, f1, v1, y0, y1, y2, y3, hr⟩ := P9.out.cells
                          obtain ⟨_, _, _, z0, z1, z2, z3, _⟩ := (P9.out.step (below_drew1 (Below.refl _ _))).cells
                          clear hr he
                          go_upto_region 34 with (fail)
                          go_region
                          go_wp2_with (fail)
                          go_ret3
                          exact ⟨_, by rw [HE3.out]; rfl, by rw [HE3.out]; exact Kd.R_nil _ _ _ _ _, below_drew1 P9.out.bel⟩
end Go.Proofs.YtdhaoaehboonpaaGreat.V
end
section
namespace Go.Proofs.YtdhaoaehboonpaaGreat.V
open Go.RowKit Go.Proofs.YtdhaoaehboonpaaGreatW.PrintWords Go.Proofs.YtdhaoaehboonpaaGreatW.PrintLast Go.Proofs.YtdhaoaehboonpaaGreatW.PrintMore Go.Proofs.YtdhaoaehboonpaaGreatM
set_option linter.unusedVariables false
set_option linter.unusedSimpArgs false
def Ext (f g : ByteArray → Option Int) : Prop := ∀ b n, f b = some n → g b = some n
theorem Ext.refl (f : ByteArray → Option Int) : Ext f f := fun _ _ h => h
theorem Ext.trans {f g h : ByteArray → Option Int} (a : Ext f g) (b : Ext g h) : Ext f h := fun x n k => b x n (a x n k)
theorem Ext.upd {f : ByteArray → Option Int} {b : ByteArray} {n : Int} (h : f b = none) : Ext f (upd f b n) := fun x m hx => by
  by_cases e : x = b
  · rw [e, h] at hx; cases hx
  · rw [upd_ne _ _ e]; exact hx
theorem putS_ext (S : PS) (b : ByteArray) (is : Bool) : Ext S.known (putS S b is).known := by
  unfold putS
  by_cases h : S.e = 0
  · rw [if_pos h]
    cases is with
    | false => exact Ext.refl _
    | true =>
      rw [if_pos rfl]
      cases hk : S.known b with
      | some n => exact Ext.refl _
      | none =>
        cases hf : S.free with
        | nil => exact Ext.refl _
        | cons n fr => exact Ext.upd hk
  · rw [if_neg h]; exact Ext.refl _
theorem chainF_ext (l : List ByteArray) (S : PS) : Ext S.known (chainF l S).2.known := by
  induction l with
  | nil => exact Ext.refl _
  | cons x l ih => rw [chainF_cons]; exact ih.trans (putS_ext _ _ _)
theorem chainsF_ext : ∀ (l : List R2) (S : PS), Ext S.known (chainsF l S).2.known
  | [], S => Ext.refl _
  | r :: t, S => by
    rw [chainsF_cons]
    split
    · exact (chainF_ext _ _).trans (chainsF_ext t _)
    · exact chainsF_ext t _
theorem slotsF_ext : ∀ (l : List (List C4)) (S : PS), Ext S.known (slotsF l S).2.known
  | [], S => Ext.refl _
  | x :: t, S => by
    rw [slotsF_cons]
    split
    · exact (putS_ext _ _ _).trans (slotsF_ext t _)
    · exact slotsF_ext t _
def KnOut (hv : List R2) (S : PS) : Prop := S.known = knF (hv ++ S.out)
theorem putS_kn {hv : List R2} {S : PS} (h : KnOut hv S) (b : ByteArray) (is : Bool) : KnOut hv (putS S b is) := by
  unfold putS
  by_cases h0 : S.e = 0
  · rw [if_pos h0]
    cases is with
    | false => exact h
    | true =>
      rw [if_pos rfl]
      cases hk : S.known b with
      | some n => exact h
      | none =>
        cases hf : S.free with
        | nil => exact h
        | cons n fr =>
          show upd S.known b n = knF (hv ++ (S.out ++ [(n, b)]))
          unfold KnOut at h
          rw [← List.append_assoc]
          unfold knF at h ⊢
          rw [List.foldl_append, ← h]
          show _ = knS S.known (n, b)
          unfold knS
          simp only [hk]
  · rw [if_neg h0]; exact h
theorem chainF_kn {hv : List R2} (l : List ByteArray) {S : PS} (h : KnOut hv S) : KnOut hv (chainF l S).2 := by
  induction l with
  | nil => exact h
  | cons x l ih => rw [chainF_cons]; exact putS_kn ih _ _
theorem chainsF_kn {hv : List R2} : ∀ (l : List R2) {S : PS}, KnOut hv S → KnOut hv (chainsF l S).2
  | [], S, h => h
  | r :: t, S, h => by
    rw [chainsF_cons]
    split
    · exact chainsF_kn t (chainF_kn _ h)
    · exact chainsF_kn t h
theorem slotsF_kn {hv : List R2} : ∀ (l : List (List C4)) {S : PS}, KnOut hv S → KnOut hv (slotsF l S).2
  | [], S, h => h
  | x :: t, S, h => by
    rw [slotsF_cons]
    split
    · exact slotsF_kn t (putS_kn h _ _)
    · exact slotsF_kn t h
theorem planZ_kn (l hv : List R2) (fr : List Int) : KnOut hv (planZ l hv fr).2 :=
  putS_kn (slotsF_kn _ (chainsF_kn (S := ⟨knF hv, fr, [], 0⟩) _ (show knF hv = knF (hv ++ []) by rw [List.append_nil]))) _ _
theorem planE_ok {l hv : List R2} {fr : List Int} (h : (planE l hv fr).2.2 = 0) : rightF (-1) l = true ∧ mayE (hv.map (·.1)) fr = true ∧ ¬ 21 < (lvs [] (l.map (cellE · 2))).length ∧ (planZ l hv fr).2.e = 0 ∧ planE l hv fr = ((planZ l hv fr).2.out, (planZ l hv fr).1, 0) := by
  unfold planE at h ⊢
  by_cases h1 : (rightF (-1) l && mayE (hv.map (·.1)) fr) = true
  · rw [if_pos h1] at h ⊢
    rw [Bool.and_eq_true] at h1
    by_cases h2 : 21 < (lvs [] (l.map (cellE · 2))).length
    · rw [if_pos h2] at h; exact absurd h (by decide)
    · rw [if_neg h2] at h ⊢
      by_cases h3 : (planZ l hv fr).2.e = 0
      · rw [if_pos h3]; exact ⟨h1.1, h1.2, h2, h3, rfl⟩
      · rw [if_neg h3] at h; exact absurd h h3
  · rw [if_neg h1] at h; exact absurd h (by decide)
theorem planE_no {l hv : List R2} {fr : List Int} (h : (planE l hv fr).2.2 ≠ 0) : (planE l hv fr).1 = [] ∧ (planE l hv fr).2.1 = 0 := by
  unfold planE at h ⊢
  split
  · rename_i h1
    rw [if_pos h1] at h
    split
    · exact ⟨rfl, rfl⟩
    · rename_i h2
      rw [if_neg h2] at h
      split
      · rename_i h3; rw [if_pos h3] at h; exact absurd rfl h
      · exact ⟨rfl, rfl⟩
  · exact ⟨rfl, rfl⟩
end Go.Proofs.YtdhaoaehboonpaaGreat.V
end
section
namespace Go.Proofs.YtdhaoaehboonpaaGreat.V
open Go.RowKit Go.Proofs.YtdhaoaehboonpaaGreatW.PrintWords Go.Proofs.YtdhaoaehboonpaaGreatW.PrintLast Go.Proofs.YtdhaoaehboonpaaGreatW.PrintMore Go.Proofs.YtdhaoaehboonpaaGreatM
set_option linter.unusedVariables false
set_option linter.unusedSimpArgs false
def pgs (n : Nat) : List Int := (List.range n).map fun (i : Nat) => (i : Int) + 2
theorem pgs_length (n : Nat) : (pgs n).length = n := by unfold pgs; simp
theorem pgs_snoc (n : Nat) : pgs (n + 1) = pgs n ++ [(n : Int) + 2] := by unfold pgs; rw [List.range_succ, List.map_append]; rfl
theorem two_of {α : Type} : ∀ (o : List α), o.length = 2 → ∃ a b, o = [a, b]
  | [a, b], _ => ⟨a, b, rfl⟩
  | [], h => by simp at h
  | [_], h => by simp at h
  | _ :: _ :: _ :: _, h => by simp at h
end Go.Proofs.YtdhaoaehboonpaaGreat.V
end
section
namespace Go.Proofs.YtdhaoaehboonpaaGreat.V
open Go.RowKit Go.Proofs.YtdhaoaehboonpaaGreatW.PrintWords Go.Proofs.YtdhaoaehboonpaaGreatW.PrintLast Go.Proofs.YtdhaoaehboonpaaGreatW.PrintMore Go.Proofs.YtdhaoaehboonpaaGreatM
set_option linter.unusedVariables false
set_option linter.unusedSimpArgs false
def FnOk (w0 : World) (L : Value) (P : R2 → Bool) : Prop := ∃ fk bs cs, L = .func (.func fk) bs cs ∧ (∀ args w, (callFunc fk args).run Tryz.prog w = .ok (.enter fk args) w) ∧
  ∀ W (x : R2), Below w0.heap.size w0 W → Calls Tryz.prog fk (bs.push (.agg #[.int .i64 x.1, .string x.2]) ++ cs) W fun e w' => e = .returned (.bool (P x)) ∧ Below W.heap.size W w'
def idxP (P : R2 → Bool) (l : List R2) : Int := match l.findIdx? P with | some i => (i : Int) | none => -1
theorem idxP_none {P : R2 → Bool} {l : List R2} (h : l.any P = false) : idxP P l = -1 := by
  unfold idxP
  rw [List.findIdx?_eq_none_iff.2 (fun x hx => by
    cases hp : P x with
    | false => rfl
    | true => rw [List.any_eq_true.2 ⟨x, hx, hp⟩] at h; cases h)]
theorem idxP_some {P : R2 → Bool} {l : List R2} {i : Nat} (hi : i < l.length) (h : (l.take i).any P = false) (hp : P l[i] = true) : idxP P l = i := by
  unfold idxP
  rw [List.findIdx?_eq_some_iff_getElem.2 ⟨hi, hp, fun j hj => by
    intro hq
    have : (l.take i).any P = true := List.any_eq_true.2 ⟨l[j], List.mem_take_iff_getElem.2 ⟨j, by omega, rfl⟩, hq⟩
    rw [h] at this; cases this⟩]
theorem idxP_any (P : R2 → Bool) (l : List R2) : 0 ≤ idxP P l ↔ l.any P = true := by
  unfold idxP
  cases h : l.findIdx? P with
  | none =>
    rw [List.findIdx?_eq_none_iff] at h
    constructor
    · intro h1; simp at h1
    · intro h1
      obtain ⟨x, hx, hp⟩ := List.any_eq_true.1 h1
      rw [h x hx] at hp; cases hp
  | some i =>
    obtain ⟨hi, hp, _⟩ := List.findIdx?_eq_some_iff_getElem.1 h
    exact ⟨fun _ => List.any_eq_true.2 ⟨l[i], List.getElem_mem hi, hp⟩, fun _ => by simp⟩
theorem atR_get {l : List R2} {i : Nat} (h : i < l.length) : atR l i = l[i] := by unfold atR; rw [List.getD_eq_getElem?_getD, List.getElem?_eq_getElem h]; rfl
set_option maxHeartbeats 4000000 in
set_option maxRecDepth 100000 in
theorem indexW_any {w : World} {L : Value} {P : R2 → Bool} (HL : FnOk w L P) (A : Option Addr) (c : Nat) (l : List R2) (h : Kd.C kR w A l.length l) (hl : l.length ≤ 1000000) :
    Calls Tryz.prog 50 #[.slice A l.length c, L] w fun e w' => e = .returned (.int .i64 (idxP P l)) ∧ Below w.heap.size w w' := by
  obtain ⟨fk, bs, cs, rfl, eg, HF⟩ := HL
  have HC := Aside0.mk h
  have HF := Aside0.mk HF
  obtain ⟨r, hr⟩ : ∃ r, r = idxP P l := ⟨_, rfl⟩
  have HR := Aside0.mk hr
  obtain ⟨n, hn⟩ : ∃ n, n = l.length := ⟨_, rfl⟩
  have HN := Aside0.mk hn
  rw [← hn] at HC hl ⊢
  rw [← hr]
  have HB := Aside0.mk (Below.refl w.heap.size w)
  clear h hn hr
  go_enter Tryz.func50, Tryz.ntmps50
  go_wp2_with (fail)
  go_loopg [8] n (fun kx v8 wr => ∃ i : Nat, v8 = .int .i64 i ∧ Aside0 (i + kx = n) ∧ Aside0 ((l.take i).any P = false) ∧ Aside0 (Below w.heap.size w wr))
  case atStart => exact ⟨0, rfl, ⟨by omega⟩, ⟨by simp⟩, HB⟩
  case round =>
    clear HB
    obtain ⟨i, rfl, HI, HA, HB⟩ := hrel
    cases gk with
    | zero =>
      have hi : i = n := by have := HI.out; omega
      subst hi
      have d1 : decide ((i : Int) < (i : Int)) = false := decide_eq_false (by omega)
      have d2 : decide (i < i) = false := decide_eq_false (by omega)
      have hA := HA.out
      rw [List.take_of_length_le (by have := HN.out; omega)] at hA
      have HRR := Aside0.mk (show r = -1 from HR.out.trans (idxP_none hA))
      clear hA
      go_wp2_with (fail)
      go_ret
      exact ⟨by rw [HRR.out]; rfl, HB.out⟩
    | succ gk =>
      have hi : i < n := by have := HI.out; omega
      have hil : i < l.length := by have := HN.out; omega
      have d1 : decide ((i : Int) < (n : Int)) = true := decide_eq_true (by omega)
      have d2 : decide (i < n) = true := decide_eq_true hi
      have d3 : (i < n) = True := eq_true hi
      have d4 : ((i : Int) < (n : Int)) = True := eq_true (by omega)
      have d5 : (0 ≤ (i : Int)) = True := eq_true (by omega)
      obtain ⟨ad, rfl, x0, x1⟩ := at_R (Kd.C_below HC.out HB.out) i hi
      rw [atR_get hil] at x0 x1
      have hcl := fun (W : World) (hW : Below w.heap.size w W) => HF.out W l[i] hW
      have htk : (l.take (i + 1)).any P = P l[i] := by
        rw [List.take_succ_eq_append_getElem hil, List.any_append, HA.out]; simp
      have hid : P l[i] = true → r = i := fun hp => HR.out.trans (idxP_some hil HA.out hp)
      obtain ⟨x, hx⟩ : ∃ x, x = l[i] := ⟨_, rfl⟩
      rw [← hx] at x0 x1 hcl htk hid
      obtain ⟨xn, hxn⟩ : ∃ y, y = x.1 := ⟨_, rfl⟩
      obtain ⟨xb, hxb⟩ : ∃ y, y = x.2 := ⟨_, rfl⟩
      rw [← hxn, ← hxb] at hcl
      rw [← hxn] at x0
      rw [← hxb] at x1
      obtain ⟨t, ht⟩ : ∃ t, t = P x := ⟨_, rfl⟩
      rw [← ht] at hcl htk hid
      have HCL := Aside0.mk hcl
      have HTK := Aside0.mk htk
      have HID := Aside0.mk hid
      clear hcl htk hid hx hxn hxb ht hil
      cases t
      case true =>
        have HRI := Aside0.mk (HID.out rfl)
        clear HID
        go_wp2_with (fail)
        with_reducible refine (HCL.out _ HB.out).mono ?_
        rintro e w' ⟨rfl, hb⟩
        have HB2 := Aside0.mk (below_step HB.out hb)
        clear hb
        go_wp2_with (fail)
        go_ret
        exact ⟨by rw [HRI.out]; rfl, HB2.out⟩
      case false =>
        go_wp2_with (fail)
        with_reducible refine (HCL.out _ HB.out).mono ?_
        rintro e w' ⟨rfl, hb⟩
        have HB2 := Aside0.mk (below_step HB.out hb)
        clear hb
        go_wp2_with (fail)
        go_roundg gk
        case measure => omega
        case rel => exact ⟨i + 1, by first | rfl | go_num, ⟨by have := HI.out; omega⟩, HTK, HB2⟩
set_option maxHeartbeats 4000000 in
set_option maxRecDepth 100000 in
theorem containsW_any {w : World} {L : Value} {P : R2 → Bool} (HL : FnOk w L P) (A : Option Addr) (c : Nat) (l : List R2) (h : Kd.C kR w A l.length l) (hl : l.length ≤ 1000000) :
    Calls Tryz.prog 100 #[.slice A l.length c, L] w fun e w' => e = .returned (.bool (l.any P)) ∧ Below w.heap.size w w' := by
  have HI := Aside0.mk (indexW_any HL A c l h hl)
  obtain ⟨fk, bs, cs, rfl, eg, HF⟩ := HL
  have hx := idxP_any P l
  obtain ⟨r, hr⟩ : ∃ r, r = idxP P l := ⟨_, rfl⟩
  obtain ⟨t, ht⟩ : ∃ t, t = l.any P := ⟨_, rfl⟩
  rw [← hr] at HI hx
  rw [← ht] at hx ⊢
  have hdt : t = decide (0 ≤ r) := by
    cases t with
    | true => rw [decide_eq_true (hx.2 rfl)]
    | false => rw [decide_eq_false (fun h => by have := hx.1 h; cases this)]
  have HDT := Aside0.mk hdt
  obtain ⟨n, hn⟩ : ∃ n, n = l.length := ⟨_, rfl⟩
  rw [← hn] at HI ⊢
  clear h hn hr ht hx hl HF hdt
  go_enter Tryz.func100, Tryz.ntmps100
  go_wp2_with (fail)
  with_reducible refine (HI.out).mono ?_
  rintro e w' ⟨rfl, hb⟩
  have HB := Aside0.mk hb
  clear hb
  go_wp2_with (fail)
  go_ret
  exact ⟨by rw [HDT.out]; rfl, HB.out⟩
end Go.Proofs.YtdhaoaehboonpaaGreat.V
end
section
namespace Go.Proofs.YtdhaoaehboonpaaGreat.V
open Go.RowKit Go.Proofs.YtdhaoaehboonpaaGreatW.PrintWords Go.Proofs.YtdhaoaehboonpaaGreatW.PrintLast Go.Proofs.YtdhaoaehboonpaaGreatW.PrintMore Go.Proofs.YtdhaoaehboonpaaGreatM
set_option linter.unusedVariables false
set_option linter.unusedSimpArgs false
def isPg (n : Int) (x : R2) : Bool := decide (x.1 = n)
set_option maxHeartbeats 4000000 in
theorem fn_free {w : World} {b : Nat} {n : Int} (h : w.heap[b]? = some (.cells #[.int .i64 n] 3 (0, 0))) : FnOk w (.func (.func 101) #[] #[.pointer (some ⟨b, 0, none⟩)]) (isPg n) := by
  refine ⟨101, _, _, rfl, enters_of Tryz.func101 (by kernel_rfl) rfl, fun W x hb => ?_⟩
  have y0 : W.cell? ⟨b, 0, none⟩ = some (.int .i64 n) := (blk_cell ((hb.block _ (blk_lt h)).trans h) 0).trans rfl
  have hlt : b < W.heap.size := blk_lt ((hb.block _ (blk_lt h)).trans h)
  obtain ⟨xn, xb⟩ := x
  have HB := Aside0.mk (Below.refl W.heap.size W)
  clear h hb
  unfold isPg
  show Calls Tryz.prog 101 #[.agg #[.int .i64 xn, .string xb], .pointer (some ⟨b, 0, none⟩)] W _
  by_cases hx : xn = n
  · subst hx
    go_enter Tryz.func101, Tryz.ntmps101
    go_wp2
    go_ret
    exact ⟨by simp, by repeat (first | (with_reducible first | exact HB.out | apply below_alloc | apply pw_below_drewN | apply below_drew1) | exact HB.out)⟩
  · have d1 : (xn == n) = false := by simpa using hx
    go_enter Tryz.func101, Tryz.ntmps101
    go_wp2
    go_ret
    exact ⟨by simp [hx], by repeat (first | (with_reducible first | exact HB.out | apply below_alloc | apply pw_below_drewN | apply below_drew1) | exact HB.out)⟩
set_option maxHeartbeats 4000000 in
theorem fn_save {w : World} {b : Nat} {n : Int} (h : w.heap[b]? = some (.cells #[.int .i64 n] 3 (0, 0))) : FnOk w (.func (.func 51) #[] #[.pointer (some ⟨b, 0, none⟩)]) (isPg n) := by
  refine ⟨51, _, _, rfl, enters_of Tryz.func51 (by kernel_rfl) rfl, fun W x hb => ?_⟩
  have y0 : W.cell? ⟨b, 0, none⟩ = some (.int .i64 n) := (blk_cell ((hb.block _ (blk_lt h)).trans h) 0).trans rfl
  have hlt : b < W.heap.size := blk_lt ((hb.block _ (blk_lt h)).trans h)
  obtain ⟨xn, xb⟩ := x
  have HB := Aside0.mk (Below.refl W.heap.size W)
  clear h hb
  unfold isPg
  show Calls Tryz.prog 51 #[.agg #[.int .i64 xn, .string xb], .pointer (some ⟨b, 0, none⟩)] W _
  by_cases hx : xn = n
  · subst hx
    go_enter Tryz.func51, Tryz.ntmps51
    go_wp2
    go_ret
    exact ⟨by simp, by repeat (first | (with_reducible first | exact HB.out | apply below_alloc | apply pw_below_drewN | apply below_drew1) | exact HB.out)⟩
  · have d1 : (xn == n) = false := by simpa using hx
    go_enter Tryz.func51, Tryz.ntmps51
    go_wp2
    go_ret
    exact ⟨by simp [hx], by repeat (first | (with_reducible first | exact HB.out | apply below_alloc | apply pw_below_drewN | apply below_drew1) | exact HB.out)⟩
def notIn (live : List R2) (n : Int) : Bool := !live.any (isPg n)
def freeL (m : Nat) (live : List R2) : List Int := (pgs m).filter (notIn live)
theorem freeL_snoc (m : Nat) (live : List R2) : freeL (m + 1) live = if live.any (isPg ((m : Int) + 2)) = true then freeL m live else freeL m live ++ [(m : Int) + 2] := by
  unfold freeL
  rw [pgs_snoc, List.filter_append, List.filter_cons, List.filter_nil]
  unfold notIn
  cases live.any (isPg ((m : Int) + 2)) <;> simp
theorem freeL_len (m : Nat) (live : List R2) : (freeL m live).length ≤ m := by
  unfold freeL
  refine Nat.le_trans (List.length_filter_le _ _) ?_
  rw [pgs_length]; exact Nat.le_refl _
theorem ki_ne {w : World} {base : Nat} {ok : Nat → Prop} {v : Value} {xs : List Int} (h : (Kd.int .i64).R 3 w base ok v xs) : (Kd.int .i64).R 3 w base (fun k => ok k ∧ k < w.heap.size) v xs :=
  Kd.R_mono (Kd.R_bound h) (fun k hk => ⟨hk.1, hk.2.2.1⟩)
theorem row_not {α : Type} {d : Kd α} {w : World} {q e base : Nat} {v : Value} {xs : List α} (h : d.R e w base (fun k => k ≠ q) v xs) : some q ≠ v.ownBlock := by
  intro hk
  exact h.1 q hk.symm rfl
set_option maxHeartbeats 8000000 in
set_option maxRecDepth 100000 in
theorem free_any (w : World) (m : Nat) (hm : m ≤ 1000) (A : Option Addr) (c : Nat) (l : List R2) (h : Kd.C kR w A l.length l) (hl : l.length ≤ 1000000) :
    Calls Tryz.prog 43 #[.int .i64 ((m : Int) + 2), .slice A l.length c] w fun e w' => ∃ v, e = .returned v ∧ (Kd.int .i64).R 3 w' w.heap.size (fun _ => True) v (freeL m l) ∧ Below w.heap.size w w' := by
  have HC := Aside0.mk (fun (W : World) (b : Nat) (n : Int) (hb : Below w.heap.size w W) (hx : W.heap[b]? = some (.cells #[.int .i64 n] 3 (0, 0))) => containsW_any (fn_free hx) A c l (Kd.C_below h hb) hl)
  obtain ⟨ln, hln⟩ : ∃ n, n = l.length := ⟨_, rfl⟩
  rw [← hln] at HC ⊢
  have HB0 := Aside0.mk (below_alloc (Below.refl w.heap.size w) (.cells #[.int .i64 2] 3))
  have H0 := Aside0.mk (MapKept.heap_alloc w (.cells #[.int .i64 2] 3)).1
  clear h hl hln
  go_enter Tryz.func43, Tryz.ntmps43
  go_wp2_with (fail)
  go_loopg [5, 6] m (fun kq v5 v6 W => ∃ (i q : Nat), v6 = .pointer (some ⟨q, 0, none⟩) ∧ Aside0 (i + kq = m) ∧ Aside0 (W.heap[q]? = some (.cells #[.int .i64 ((i : Int) + 2)] 3 (0, 0))) ∧ Aside0 (w.heap.size ≤ q) ∧ Aside0 ((Kd.int .i64).R 3 W w.heap.size (fun k => k ≠ q) v5 (freeL i l)) ∧ Aside0 (Below w.heap.size w W))
  case atStart => exact ⟨0, _, rfl, ⟨by omega⟩, H0, ⟨Nat.le_refl _⟩, ⟨Kd.R_nil _ _ _ _ _⟩, HB0⟩
  case round =>
    clear HB0 H0
    obtain ⟨i, q, rfl, HI, HQ, HG, HR, HB⟩ := hrel
    rename World => W
    have c0 := (blk_cell HQ.out 0).trans rfl
    cases gk with
    | zero =>
      have hi : i = m := by have := HI.out; omega
      subst hi
      have d1 : decide ((i : Int) + 2 < (i : Int) + 2) = false := decide_eq_false (by omega)
      clear HI
      go_wp2_with (fail)
      go_ret
      exact ⟨_, rfl, Kd.R_mono HR.out (fun _ _ => trivial), HB.out⟩
    | succ gk =>
      have hi : i < m := by have := HI.out; omega
      have d1 : decide ((i : Int) + 2 < (m : Int) + 2) = true := decide_eq_true (by omega)
      have d2 : decide (i < m) = true := decide_eq_true hi
      have d3 : ((i : Int) < (m : Int)) = True := eq_true (by omega)
      have d4 : decide ((i : Int) < (m : Int)) = true := decide_eq_true (by omega)
      have hsn := freeL_snoc i l
      have hlen := freeL_len i l
      have hcl := HC.out W q ((i : Int) + 2) HB.out HQ.out
      obtain ⟨t, ht⟩ : ∃ t, t = l.any (isPg ((i : Int) + 2)) := ⟨_, rfl⟩
      rw [← ht] at hsn hcl
      have HCL := Aside0.mk hcl
      have HSN := Aside0.mk hsn
      have hq : (i : Int) + 2 + 1 = ((i + 1 : Nat) : Int) + 2 := by omega
      have HLEN := Aside0.mk hlen
      clear hcl hsn ht hlen
      cases t
      case true =>
        go_wp2_with (fail)
        with_reducible refine (HCL.out).mono ?_
        rintro e w2 ⟨rfl, hb⟩
        have HB2 := Aside0.mk (below_step HB.out hb)
        have HQ2 := Aside0.mk ((hb.block _ (blk_lt HQ.out)).trans HQ.out)
        have HR2 := Aside0.mk (Kd.R_below HR.out hb)
        clear hb HB HQ HR HCL
        have c1 := (blk_cell HQ2.out 0).trans rfl
        go_wp2_with (fail)
        go_roundg gk
        case measure => omega
        case rel =>
          refine ⟨i + 1, w2.heap.size, rfl, ⟨by have := HI.out; omega⟩, ⟨?_⟩, ⟨HB2.out.size⟩, ⟨?_⟩, ⟨below_alloc HB2.out _⟩⟩
          · rw [← hq]; exact (MapKept.heap_alloc w2 _).1
          · rw [HSN.out]
            exact Kd.R_alloc (Kd.R_mono (ki_ne HR2.out) (fun k hk => Nat.ne_of_lt hk.2)) _
      case false =>
        go_wp2_with (fail)
        with_reducible refine (HCL.out).mono ?_
        rintro e w2 ⟨rfl, hb⟩
        have HB2 := Aside0.mk (below_step HB.out hb)
        have HQ2 := Aside0.mk ((hb.block _ (blk_lt HQ.out)).trans HQ.out)
        have HR2 := Aside0.mk (Kd.R_below HR.out hb)
        clear hb HB HQ HR HCL
        have c1 := (blk_cell HQ2.out 0).trans rfl
        have hqs : q < w2.heap.size := blk_lt HQ2.out
        have HQS := Aside0.mk hqs
        clear hqs
        have hlm : (freeL i l).length ≤ 1000 := by have := HLEN.out; omega
        go_wp2_with (first | ((with_reducible refine gate_builtin (b := .append) (xs := #[.tmp 16, .tmp 18]) rfl ?_); at_builtin; go_must (refine Kd.R_append (Kd.int .i64) w.heap.size rfl (.tmp 16) (.tmp 18) 40 3 (.int .i64 0) 8 rfl Tryz.underlying40 info3 rfl (by decide) (by omega) u5 (freeL i l) ((i : Int) + 2) [.int .i64 ((i : Int) + 2)] (fun k => k ≠ q) (fun _ => False) rfl rfl rfl (fun _ hk => hk.elim) ?aF HR2.out HB2.out HB2.out.size (by omega) ?_); (case aF => exact fun k hk => Nat.ne_of_gt (Nat.lt_of_lt_of_le HQS.out hk)); intro v3 w3 ho_ hb_ hg_ hat_; have HR3 := Aside0.mk ho_; have HB3 := Aside0.mk hb_; have HQ3 := Aside0.mk ((hg_.block q HQS.out (row_not HR2.out)).trans HQ2.out); clear ho_ hb_ hg_ hat_; have c2 := (blk_cell HQ3.out 0).trans rfl))
        clear c0 c1 c2
        go_roundg gk
        case measure => omega
        case rel =>
          refine ⟨i + 1, w3.heap.size, rfl, ⟨by have := HI.out; omega⟩, ⟨?_⟩, ⟨HB3.out.size⟩, ⟨?_⟩, ⟨below_alloc HB3.out _⟩⟩
          · rw [← hq]; exact (MapKept.heap_alloc w3 _).1
          · rw [HSN.out]
            exact Kd.R_alloc (Kd.R_mono (ki_ne HR3.out) (fun k hk => Nat.ne_of_lt hk.2)) _
end Go.Proofs.YtdhaoaehboonpaaGreat.V
end
