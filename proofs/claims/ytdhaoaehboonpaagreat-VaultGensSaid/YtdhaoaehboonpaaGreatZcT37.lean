/- Of the texts that the row stands on, what it needs (part 37), put together by a program of this session. -/
import Derived.Test.YtdhaoaehboonpaaGreatZcT34
import Derived.Test.YtdhaoaehboonpaaGreatZcT35
import Derived.Test.YtdhaoaehboonpaaGreatZcT36
namespace Go.Proofs.YtdhaoaehboonpaaGreat.V
open Go.RowKit Go.Proofs.YtdhaoaehboonpaaGreatW.PrintWords Go.Proofs.YtdhaoaehboonpaaGreatW.PrintLast Go.Proofs.YtdhaoaehboonpaaGreatW.PrintMore Go.Proofs.YtdhaoaehboonpaaGreatM
open Go.Proofs.YtdhaoaehboonpaaGreat.PSm (S50 k50)
open Go.Proofs.YtdhaoaehboonpaaGreat.Th (Rw IsRows)
set_option linter.unusedVariables false
set_option linter.unusedSimpArgs false
theorem tR5_len (l : List S50) : (tR5 l).length = l.length := by rw [tR5, List.length_map]
theorem C_tR5 {w : World} {A : Option Addr} {l : List S50} (h : Kd.C k50 w A l.length l) : Kd.C kR w A (tR5 l).length (tR5 l) := by rw [tR5_len]; exact C_iso h
def LastOk (w : World) (v : Value) (V : VS) : Prop := ∃ (A : Option Addr) (c : Nat) (ll : List S50), v = .slice A ll.length c ∧ Kd.C k50 w A ll.length ll ∧ ll.length ≤ c ∧ ll.length ≤ 120 ∧ V.recs = tR5 ll
set_option maxHeartbeats 32000000 in
set_option maxRecDepth 100000 in
theorem gens_any (w : World) (A : Option Addr) (c : Nat) (LL : List Rw) (hr : IsRows w A LL) (hc : LL.length ≤ c) :
    Calls Tryz.prog 3 #[.slice A LL.length c] w fun e w' => e = .returned (.bool true) ∧ Below w.heap.size w w' := by
  have HAL := Aside0.mk (fun W => alive_any W)
  obtain ⟨n, hn⟩ : ∃ n, n = LL.length := ⟨_, rfl⟩
  have HR := Aside0.mk hr
  have HN := Aside0.mk hn
  rw [← hn]
  clear hr hc hn
  have HB0 := Aside0.mk (Below.refl w.heap.size w)
  by_cases h10 : 10 < n
  · have d1 : decide (10 < (n : Int)) = true := decide_eq_true (by omega)
    have d2 : decide (10 < n) = true := decide_eq_true h10
    clear h10 HR HN
    go_enter Tryz.func3, Tryz.ntmps3
    go_wp2_with (go_at_call 11; (with_reducible refine (HAL.out _).mono ?_); rintro e w2 ⟨rfl, hb2⟩; have n0_ := Aside0.mk (below_step HB0.out hb2); clear hb2 HB0; have HB0 := n0_; clear n0_)
    go_ret
    exact ⟨rfl, HB0.out⟩
  · have d1 : decide (10 < (n : Int)) = false := decide_eq_false (by omega)
    have d2 : decide (10 < n) = false := decide_eq_false h10
    obtain ⟨hp, hp1⟩ := plan_none (m := 88) (by decide) (by decide)
    obtain ⟨hd, hh, hl2, ha, hf⟩ := fmt_disk (N := 90) (l := []) (by decide) (by decide) hp
    have hv := fmtV_ok (N := 90) (m := 88) (l := []) (by decide) (by decide) rfl hp
    have HFM := Aside0.mk (fun (W : World) (hb : Below w.heap.size w W) => show Calls Tryz.prog 12 #[.int .i64 90, .slice none 0 0] W fun e w' => ∃ g, e = .returned (.tuple #[.pointer (some ⟨g, 0, none⟩), .int .i64 0]) ∧ VP.IsQ w w' g (fmtS 90 []) ∧ Below W.heap.size W w' from format_law hb 90 (by decide) (by decide) none 0 [] (Kd.C_nil _ _) (Nat.le_refl _) (by decide) hp)
    have HOP := Aside0.mk (fun (W : World) (g : Nat) (hq : VP.IsQ w W g (fmtS 90 [])) => (show Calls Tryz.prog 13 #[.pointer (some ⟨g, 0, none⟩)] W fun e w' => ∃ gv, e = .returned (.tuple #[.pointer (some ⟨gv, 0, none⟩), .int .i64 0]) ∧ IsV w w' gv g (fmtV 90 []) ∧ Below W.heap.size W w' from open_disk hq hd hh hl2))
    obtain ⟨V0, hV0⟩ : ∃ V, V = fmtV 90 [] := ⟨_, rfl⟩
    have HV0 := Aside0.mk (show VOk V0 88 ∧ V0.P.halts = false ∧ V0.gen = 1 ∧ V0.recs = [] from by rw [hV0]; exact ⟨hv, hf, rfl, rfl⟩)
    rw [← hV0] at HOP
    obtain ⟨S0, hS0⟩ : ∃ S, S = fmtS 90 [] := ⟨_, rfl⟩
    rw [← hS0] at HFM HOP
    have HGEN := Aside0.mk (fun (W : World) (gv g : Nat) (V : VS) (h : IsV w W gv g V) => gen_any h)
    clear hp hp1 hd hh hl2 ha hf hv hV0 hS0
    go_enter Tryz.func3, Tryz.ntmps3
    go_upto_region 6 with (first
      | (go_at_call 11; (with_reducible refine (HAL.out _).mono ?_); rintro e w2 ⟨rfl, hb2⟩; have HB2 := Aside0.mk (below_step HB0.out hb2); clear hb2 HB0)
      | (go_at_call 12; (with_reducible refine (HFM.out _ HB2.out).mono ?_); rintro e w3 ⟨g, rfl, hq, hb⟩; have HQ3 := Aside0.mk hq; clear hq hb HFM HB2))
    go_upto_region 11 with (go_at_call 13; (with_reducible refine (HOP.out _ _ HQ3.out).mono ?_); rintro e w4 ⟨gv, rfl, hv, hb⟩; have HV4 := Aside0.mk hv; clear hv hb HQ3 HOP)
    clear d1 d2
    go_wp2_with (fail)
    go_loopg [6, 7, 39] n (fun kq v6 v7 v39 W => ∃ (i : Nat) (G : Int) (V : VS), v39 = .int .i64 i ∧ v6 = .int .i64 G ∧ Aside0 (i + kq = n) ∧ Aside0 (V.gen = G ∧ 1 ≤ G ∧ G ≤ 1 + i) ∧ Aside0 (LastOk w v7 V) ∧ Aside0 (VOk V 88 ∧ V.P.halts = false) ∧ Aside0 (IsV w W gv g V))
    case atStart => exact ⟨0, 1, V0, rfl, rfl, ⟨by omega⟩, ⟨HV0.out.2.2.1, by decide, by decide⟩, ⟨none, 0, [], rfl, ⟨rfl, by decide, fun h => absurd h (by decide)⟩, Nat.le_refl _, by decide, HV0.out.2.2.2⟩, ⟨HV0.out.1, HV0.out.2.1⟩, HV4⟩
    case round =>
      clear HV4 HV0
      obtain ⟨i, G, V, rfl, rfl, HI, HG, HLA, HVO, HV⟩ := hrel
      rename World => W
      cases gk with
      | zero =>
        have hi : i = n := by have := HI.out; omega
        subst hi
        have d1 : decide ((i : Int) < (i : Int)) = false := decide_eq_false (by omega)
        have d2 : decide (i < i) = false := decide_eq_false (by omega)
        go_wp2_with (fail)
        go_ret
        exact ⟨rfl, IsQ_bel HV.out.q⟩
      | succ gk =>
        have hi : i < n := by have := HI.out; omega
        have hil : i < LL.length := by have := HN.out; omega
        have d1 : decide ((i : Int) < (n : Int)) = true := decide_eq_true (by omega)
        have d2 : decide (i < n) = true := decide_eq_true hi
        have d3 : (i < n) = True := eq_true hi
        have d4 : ((i : Int) < (n : Int)) = True := eq_true (by omega)
        have d5 : (0 ≤ (i : Int)) = True := eq_true (by omega)
        obtain ⟨⟨ad, ea, hx0⟩, hxC, hxc⟩ := HR.out i LL[i] (List.getElem?_eq_getElem hil)
        subst ea
        obtain ⟨⟨xA, xc, xl⟩, hx⟩ : ∃ x, x = LL[i] := ⟨_, rfl⟩
        rw [← hx] at hx0 hxC hxc
        simp only [] at hx0 hxC hxc
        have x0 : W.cell? (ad.add i) = some (.slice xA xl.length xc) := ((IsQ_bel HV.out.q).cell (World.block_lt_of_cell? w _ hx0)).trans hx0
        obtain ⟨fw, hfw, hfc⟩ := few_any xA xc xl w hxC hxc
        have HF := Aside0.mk (fun (W : World) (hb : Below w.heap.size w W) => hfc W hb)
        obtain ⟨xn, hxn⟩ : ∃ k, k = xl.length := ⟨_, rfl⟩
        have HXN := Aside0.mk hxn
        have HXC := Aside0.mk (And.intro hxC hxc)
        rw [← hxn] at x0 HF
        cases fw with
        | false =>
          clear hx0 hxC hxc hfw hfc hx hil hxn
          go_wp2_with (go_at_call 14; (with_reducible refine (HF.out _ (IsQ_bel HV.out.q)).mono ?_); rintro e w5 ⟨rfl, hb⟩; have HV5 := Aside0.mk (HV.out.below hb); clear hb)
          go_ret
          exact ⟨rfl, IsQ_bel HV5.out.q⟩
        | true =>
          have hl := hfw rfl
          have HLN := Aside0.mk hl
          have htwo := fun (W : World) (h : IsV w W gv g V) => save_two h HVO.out.1 HVO.out.2 (by have := HG.out; omega) xA xc (tR5 xl) (Kd.C_below (C_tR5 hxC) (IsQ_bel h.q)) (by rw [tR5_len]; exact hxc) (by rw [tR5_len]; omega)
          rw [tR5_len, ← hxn] at htwo
          obtain ⟨ec, hec⟩ : ∃ e, e = (svP V 88 (tR5 xl)).2.2 := ⟨_, rfl⟩
          rw [← hec] at htwo
          have hwr : IntKind.i64.wrap (G + 1) = G + 1 := by have := HG.out; rw [IntKind.wrap_i64]; omega
          by_cases he : ec = 0
          · have HSV := Aside0.mk (fun (W : World) (h : IsV w W gv g V) => (htwo W h).2 he)
            clear hx0 hxC hxc hfw hfc hx hil hxn hl htwo hec he
            go_upto_region 16 with (go_at_call 14; (with_reducible refine (HF.out _ (IsQ_bel HV.out.q)).mono ?_); rintro e w5 ⟨rfl, hb⟩; have HV5 := Aside0.mk (HV.out.below hb); clear hb HV)
            go_upto_region 19 with (go_at_call 15; (with_reducible refine (HSV.out _ HV5.out).mono ?_); rintro e w6 ⟨V', rfl, hv, ho, hok, hht, hg, hrc, _, _⟩; have HV6 := Aside0.mk hv; have HG6 := Aside0.mk (show V'.gen = G + 1 from hg.trans (by rw [HG.out.1])); have HOK6 := Aside0.mk (And.intro hok hht); have HRC := Aside0.mk hrc; clear hv ho hok hht hg hrc HV5 HSV)
            have HLC := Aside0.mk (show Kd.C k50 w xA xl.length xl ∧ xl.length ≤ xc ∧ xl.length ≤ 120 ∧ V'.recs = tR5 xl from ⟨HXC.out.1, HXC.out.2, HLN.out, HRC.out⟩)
            have HLX := Aside0.mk HXN.out
            have HOP2 := Aside0.mk (fun (W : World) (hq : VP.IsQ w W g V'.P) => open_disk hq HOK6.out.1.disk HOK6.out.1.halted HOK6.out.1.last)
            obtain ⟨VO, hVO⟩ : ∃ X, X = opV V'.P V'.pages V'.gen V'.root V'.recs V'.live := ⟨_, rfl⟩
            have HVOG := Aside0.mk (show VO.gen = (G + 1) ∧ VO.recs = tR5 xl from by rw [hVO]; exact ⟨HG6.out, HLC.out.2.2.2⟩)
            rw [← hVO] at HOP2
            clear hVO
            have HRECS := Aside0.mk (fun (W : World) (gw : Nat) (h : IsV w W gw g VO) => records_any h (by rw [HVOG.out.2, tR5_len]; have := HLC.out.2.2.1; omega))
            rw [HVOG.out.2] at HRECS
            have HREM := Aside0.mk (fun (W : World) (hb : Below w.heap.size w W) => (show Calls Tryz.prog 19 #[.slice xA xn xc] W fun e w' => ∃ v : Value, e = .returned v ∧ kR.R 109 w' W.heap.size (fun _ => True) v (tR5 xl) ∧ Below W.heap.size W w' from by have := recs_any xA xc (tR5 xl) W (Kd.C_below (C_tR5 HLC.out.1) hb) (by rw [tR5_len]; exact HLC.out.2.1) (by rw [tR5_len]; have := HLC.out.2.2.1; omega); rw [tR5_len, ← HLX.out] at this; exact this))
            have HSA := Aside0.mk (fun (W : World) (B : Option Addr) (d : Nat) (B2 : Option Addr) (d2 : Nat) (h1 : kR.R 50 W w.heap.size (fun _ => True) (.slice B xn d) (tR5 xl)) (h2 : kR.R 109 W w.heap.size (fun _ => True) (.slice B2 xn d2) (tR5 xl)) => (show Calls Tryz.prog 17 #[.slice B xn d, .slice B2 xn d2] W fun e w' => e = .returned (.bool true) ∧ Below W.heap.size W w' from by
              have e1 : xn = (tR5 xl).length := by rw [tR5_len]; exact HLX.out
              rw [e1] at h1 h2 ⊢
              have := same_any B d (tR5 xl) B2 d2 (tR5 xl) W (Kd.R_reads' h1).2.2 (Kd.R_reads' h1).2.1 (by rw [tR5_len]; have := HLC.out.2.2.1; omega) (Kd.R_reads' h2).2.2 (Kd.R_reads' h2).2.1
              rwa [decide_eq_true rfl] at this))
            have qg : ((G + 1) != (G + 1)) = false := by simp
            go_upto_region 20 with (go_at_call 13; (with_reducible refine (HOP2.out _ HV6.out.q).mono ?_); rintro e w7 ⟨gw, rfl, hv, hb⟩; have HW7 := Aside0.mk hv; have HV7 := Aside0.mk (HV6.out.below hb); clear hv hb HV6 HOP2)
            go_wp2_with (first
              | (go_at_call 16; (with_reducible refine (HGEN.out _ _ _ _ HW7.out).mono ?_); rintro e w8 ⟨rfl, hb⟩; rw [HVOG.out.1]; have HW8 := Aside0.mk (HW7.out.below hb); have HV8 := Aside0.mk (HV7.out.below hb); clear hb HV7 HW7)
              | (go_at_call 16; (with_reducible refine (HGEN.out _ _ _ _ HV8.out).mono ?_); rintro e w9 ⟨rfl, hb⟩; rw [HG6.out]; have HW9 := Aside0.mk (HW8.out.below hb); have HV9 := Aside0.mk (HV8.out.below hb); clear hb HV8 HW8)
              | (go_at_call 18; (with_reducible refine (HRECS.out _ _ HW9.out).mono ?_); rintro e w10 ⟨v10, rfl, hr, hb⟩; obtain ⟨A10, c10, ev⟩ := Kd.R_slice hr; rw [tR5_len, ← HLX.out] at ev; subst ev; have HR10 := Aside0.mk (Kd.R_lower hr HV9.out.q.1.size); have HV10 := Aside0.mk (HV9.out.below hb); clear hr hb HV9 HW9)
              | (go_at_call 19; (with_reducible refine (HREM.out _ (IsQ_bel HV10.out.q)).mono ?_); rintro e w11 ⟨v11, rfl, hr, hb⟩; obtain ⟨A11, c11, ev⟩ := Kd.R_slice hr; rw [tR5_len, ← HLX.out] at ev; subst ev; have HR11b := Aside0.mk (Kd.R_lower hr HV10.out.q.1.size); have HR11 := Aside0.mk (Kd.R_below HR10.out hb); have HV11 := Aside0.mk (HV10.out.below hb); clear hr hb HV10 HR10)
              | (go_at_call 17; (with_reducible refine (HSA.out _ _ _ _ _ HR11.out HR11b.out).mono ?_); rintro e w12 ⟨rfl, hb⟩; have HV12 := Aside0.mk (HV11.out.below hb); clear hb HV11 HR11 HR11b))
            go_roundg gk
            case measure => omega
            case rel => exact ⟨i + 1, (G + 1), V', by first | rfl | go_num, rfl, ⟨by have := HI.out; omega⟩, ⟨HG6.out, by have := HG.out; omega, by have := HG.out; omega⟩, ⟨_, _, xl, by rw [HLX.out], HLC.out.1, HLC.out.2.1, HLC.out.2.2.1, HLC.out.2.2.2⟩, HOK6, HV12⟩
          · have HSV := Aside0.mk (fun (W : World) (h : IsV w W gv g V) => (htwo W h).1 he)
            have q1 : (ec == 0) = false := by simpa using he
            obtain ⟨lA, lc, ll, ev, hl1, hl2, hl3, hl4⟩ := HLA.out
            obtain ⟨ln, hln⟩ : ∃ k, k = ll.length := ⟨_, rfl⟩
            rw [← hln] at ev
            subst ev
            have HLX := Aside0.mk hln
            have HLC := Aside0.mk (And.intro hl1 (And.intro hl2 (And.intro hl3 hl4)))
            clear hx0 hxC hxc hfw hfc hx hil hxn hl htwo hec he hl1 hl2 hl3 hl4 hln hwr
            go_upto_region 16 with (go_at_call 14; (with_reducible refine (HF.out _ (IsQ_bel HV.out.q)).mono ?_); rintro e w5 ⟨rfl, hb⟩; have HV5 := Aside0.mk (HV.out.below hb); clear hb HV)
            go_upto_region 19 with (go_at_call 15; (with_reducible refine (HSV.out _ HV5.out).mono ?_); rintro e w6 ⟨rfl, hv, ho⟩; have HV6 := Aside0.mk hv; have HG6 := Aside0.mk HG.out.1; have HOK6 := Aside0.mk HVO.out; clear hv ho HV5 HSV)
            have HOP2 := Aside0.mk (fun (W : World) (hq : VP.IsQ w W g V.P) => open_disk hq HOK6.out.1.disk HOK6.out.1.halted HOK6.out.1.last)
            obtain ⟨VO, hVO⟩ : ∃ X, X = opV V.P V.pages V.gen V.root V.recs V.live := ⟨_, rfl⟩
            have HVOG := Aside0.mk (show VO.gen = G ∧ VO.recs = tR5 ll from by rw [hVO]; exact ⟨HG6.out, HLC.out.2.2.2⟩)
            rw [← hVO] at HOP2
            clear hVO
            have HRECS := Aside0.mk (fun (W : World) (gw : Nat) (h : IsV w W gw g VO) => records_any h (by rw [HVOG.out.2, tR5_len]; have := HLC.out.2.2.1; omega))
            rw [HVOG.out.2] at HRECS
            have HREM := Aside0.mk (fun (W : World) (hb : Below w.heap.size w W) => (show Calls Tryz.prog 19 #[.slice lA ln lc] W fun e w' => ∃ v : Value, e = .returned v ∧ kR.R 109 w' W.heap.size (fun _ => True) v (tR5 ll) ∧ Below W.heap.size W w' from by have := recs_any lA lc (tR5 ll) W (Kd.C_below (C_tR5 HLC.out.1) hb) (by rw [tR5_len]; exact HLC.out.2.1) (by rw [tR5_len]; have := HLC.out.2.2.1; omega); rw [tR5_len, ← HLX.out] at this; exact this))
            have HSA := Aside0.mk (fun (W : World) (B : Option Addr) (d : Nat) (B2 : Option Addr) (d2 : Nat) (h1 : kR.R 50 W w.heap.size (fun _ => True) (.slice B ln d) (tR5 ll)) (h2 : kR.R 109 W w.heap.size (fun _ => True) (.slice B2 ln d2) (tR5 ll)) => (show Calls Tryz.prog 17 #[.slice B ln d, .slice B2 ln d2] W fun e w' => e = .returned (.bool true) ∧ Below W.heap.size W w' from by
              have e1 : ln = (tR5 ll).length := by rw [tR5_len]; exact HLX.out
              rw [e1] at h1 h2 ⊢
              have := same_any B d (tR5 ll) B2 d2 (tR5 ll) W (Kd.R_reads' h1).2.2 (Kd.R_reads' h1).2.1 (by rw [tR5_len]; have := HLC.out.2.2.1; omega) (Kd.R_reads' h2).2.2 (Kd.R_reads' h2).2.1
              rwa [decide_eq_true rfl] at this))
            have qg : (G != G) = false := by simp
            go_upto_region 20 with (go_at_call 13; (with_reducible refine (HOP2.out _ HV6.out.q).mono ?_); rintro e w7 ⟨gw, rfl, hv, hb⟩; have HW7 := Aside0.mk hv; have HV7 := Aside0.mk (HV6.out.below hb); clear hv hb HV6 HOP2)
            go_wp2_with (first
              | (go_at_call 16; (with_reducible refine (HGEN.out _ _ _ _ HW7.out).mono ?_); rintro e w8 ⟨rfl, hb⟩; rw [HVOG.out.1]; have HW8 := Aside0.mk (HW7.out.below hb); have HV8 := Aside0.mk (HV7.out.below hb); clear hb HV7 HW7)
              | (go_at_call 16; (with_reducible refine (HGEN.out _ _ _ _ HV8.out).mono ?_); rintro e w9 ⟨rfl, hb⟩; rw [HG6.out]; have HW9 := Aside0.mk (HW8.out.below hb); have HV9 := Aside0.mk (HV8.out.below hb); clear hb HV8 HW8)
              | (go_at_call 18; (with_reducible refine (HRECS.out _ _ HW9.out).mono ?_); rintro e w10 ⟨v10, rfl, hr, hb⟩; obtain ⟨A10, c10, ev⟩ := Kd.R_slice hr; rw [tR5_len, ← HLX.out] at ev; subst ev; have HR10 := Aside0.mk (Kd.R_lower hr HV9.out.q.1.size); have HV10 := Aside0.mk (HV9.out.below hb); clear hr hb HV9 HW9)
              | (go_at_call 19; (with_reducible refine (HREM.out _ (IsQ_bel HV10.out.q)).mono ?_); rintro e w11 ⟨v11, rfl, hr, hb⟩; obtain ⟨A11, c11, ev⟩ := Kd.R_slice hr; rw [tR5_len, ← HLX.out] at ev; subst ev; have HR11b := Aside0.mk (Kd.R_lower hr HV10.out.q.1.size); have HR11 := Aside0.mk (Kd.R_below HR10.out hb); have HV11 := Aside0.mk (HV10.out.below hb); clear hr hb HV10 HR10)
              | (go_at_call 17; (with_reducible refine (HSA.out _ _ _ _ _ HR11.out HR11b.out).mono ?_); rintro e w12 ⟨rfl, hb⟩; have HV12 := Aside0.mk (HV11.out.below hb); clear hb HV11 HR11 HR11b))
            go_roundg gk
            case measure => omega
            case rel => exact ⟨i + 1, G, V, by first | rfl | go_num, rfl, ⟨by have := HI.out; omega⟩, ⟨HG6.out, by have := HG.out; omega, by have := HG.out; omega⟩, ⟨_, _, ll, by rw [HLX.out], HLC.out.1, HLC.out.2.1, HLC.out.2.2.1, HLC.out.2.2.2⟩, HOK6, HV12⟩
end Go.Proofs.YtdhaoaehboonpaaGreat.V
